/- Texts of this claim, joined. -/
import Derived.Test.YtohfcmhidjaohaaDoorJCountStill02
import Derived.Test.YtohfcmhidjaohaaDoorJCountStill01
import Derived.Laws.AppendOwn
set_option linter.unusedVariables false
set_option linter.unusedSimpArgs false
set_option linter.unusedSectionVars false
section
namespace Go.Proofs.YtohfcmhidjaohaaDoor.Q
open Go.RowKit Go.Shelf Go.Proofs.YtohfcmhidjaohaaDoorW.PrintWords Go.Proofs.YtohfcmhidjaohaaDoorW.PrintLast Go.Proofs.YtohfcmhidjaohaaDoorW.PrintMore
set_option linter.unusedSectionVars false
theorem fold_min : ∀ (l : List Int) (a : Int), (l.foldl min a = a ∨ l.foldl min a ∈ l) ∧ l.foldl min a ≤ a ∧ ∀ x ∈ l, l.foldl min a ≤ x
 | [], a => ⟨.inl rfl, Int.le_refl _, fun _ hx => by cases hx⟩
 | y :: l, a => by
  obtain ⟨h1, h2, h3⟩ := fold_min l (min a y)
  rw [List.foldl_cons]
  refine ⟨?_, by omega, fun x hx => ?_⟩
  ·rcases h1 with h1 | h1
   ·rw [h1]
    by_cases h : a ≤ y
    ·left
     omega
    ·right
     rw [show min a y = y by omega]
     exact List.mem_cons_self
   ·exact .inr (List.mem_cons_of_mem _ h1)
  ·rcases List.mem_cons.1 hx with rfl | hx
   ·omega
   ·exact h3 x hx
theorem minOf_cons (x : Int) (l : List Int) : Lib.minOf (x :: l) = l.foldl min x := by
 unfold Lib.minOf
 rw [List.headD_cons, List.foldl_cons, show min x x = x by omega]
theorem minOf_mem (s : List Int) (h : s ≠ []) : Lib.minOf s ∈ s := by
 cases s with
 | nil => exact absurd rfl h
 | cons x l =>
  rw [minOf_cons]
  rcases (fold_min l x).1 with h1 | h1
  ·rw [h1]
   exact List.mem_cons_self
  ·exact List.mem_cons_of_mem _ h1
theorem mins_nodup {L : List (List Int)} (hf : L.flatten.Nodup) (hn : ∀ s ∈ L, s ≠ []) : (L.map Lib.minOf).Nodup := by
 refine List.pairwise_map.2 (List.Pairwise.imp_of_mem (fun {a b} ha hb hne e => hne ?_) (nodup_of_flat L hf hn))
 exact flat_inj L hf a b (Lib.minOf a) ha hb (minOf_mem a (hn a ha)) (by rw [e]; exact minOf_mem b (hn b hb))
theorem sortable_of {L : List (List Int)} (hl : L.length ≤ 1000) (hf : L.flatten.Nodup) (hn : ∀ s ∈ L, s ≠ []) (hb : ∀ s ∈ L, s.length ≤ 1000 ∧ ∀ x ∈ s, 0 ≤ x ∧ x ≤ 1000000) : sortable L = true := by
 unfold sortable
 rw [Bool.and_eq_true, Bool.and_eq_true, List.all_eq_true]
 refine ⟨⟨decide_eq_true hl, fun s hs => ?_⟩, decide_eq_true (mins_nodup hf hn)⟩
 have h1 := List.length_pos_iff.2 (hn s hs)
 have h2 := (hb s hs).2 _ (minOf_mem s (hn s hs))
 simp only [Bool.and_eq_true, decide_eq_true_eq]
 exact ⟨⟨⟨h1, (hb s hs).1⟩, h2.1⟩, h2.2⟩
theorem cutA_len (cs : List Int) : ∀ (l own : List Int), (cutA cs l own).length ≤ l.length + 1
 | [], own => by
  unfold cutA
  split <;> simp
 | k :: l, own => by
  unfold cutA
  split
  ·split
   ·have := cutA_len cs l []
    simp only [List.length_cons]
    omega
   ·have := cutA_len cs l []
    simp only [List.length_cons]
    omega
  ·have := cutA_len cs l (own ++ [k])
   simp only [List.length_cons]
   omega
theorem wr1 (n : Nat) (h : n ≤ 100000) : wrap64 ((n : Int) + 1) = ((n + 1 : Nat) : Int) := by unfold wrap64; omega
theorem rd_drop {L : List Int} {u : Nat} {x : Int} {l : List Int} (h : L.drop u = x :: l) : u < L.length ∧ rd L (u : Int) = x ∧ L.drop (u + 1) = l := by
 have hu : u < L.length := by
  rcases Nat.lt_or_ge u L.length with h1 | h1
  ·exact h1
  ·rw [List.drop_eq_nil_of_le h1] at h
   cases h
 rw [List.drop_eq_getElem_cons hu] at h
 injection h with h1 h2
 refine ⟨hu, ?_, h2⟩
 unfold rd
 rw [Int.toNat_natCast, List.getD_eq_getElem?_getD, List.getElem?_eq_getElem hu]
 exact h1
theorem rdS_drop {L : List (List Int)} {u : Nat} {x : List Int} {l : List (List Int)} (h : L.drop u = x :: l) : u < L.length ∧ rdS L (u : Int) = x ∧ L.drop (u + 1) = l := by
 have hu : u < L.length := by
  rcases Nat.lt_or_ge u L.length with h1 | h1
  ·exact h1
  ·rw [List.drop_eq_nil_of_le h1] at h
   cases h
 rw [List.drop_eq_getElem_cons hu] at h
 injection h with h1 h2
 refine ⟨hu, ?_, h2⟩
 unfold rdS
 rw [Int.toNat_natCast, List.getD_eq_getElem?_getD, List.getElem?_eq_getElem hu]
 exact h1
theorem str_l1 (cs : List Int) (w h n i : Int) (P : List (List Int)) (L : List Int) (r : List (List Int)) : ∀ (l : List Int) (u : Nat) (out : List (List Int)) (own : List Int), L.drop u = l → (∀ x ∈ l, 0 ≤ x ∧ x < (cs.length : Int)) → own.length + l.length ≤ 1000 → out.length + l.length ≤ 1000 → u + l.length ≤ 1000 → u ≤ L.length →
  Ev (fun k => impl_tray_stretches.l0 k (out ++ cutA cs l own) P n (wrap64 (i + 1)) w h cs) r → Ev (fun k => impl_tray_stretches.l1 k out own P n i L (L.length : Int) (u : Int) w h cs) r
 | [], u, out, own, hd, _, _, ho, _, hu, hE => by
  have hL : u = L.length := by
   have := congrArg List.length hd
   simp at this
   omega
  subst hL
  refine Ev.step hE fun k => ?_
  simp only [impl_tray_stretches.l1]
  rw [if_neg (by omega)]
  unfold cutA
  by_cases hz : own = []
  ·subst hz
   rw [if_neg (by simp), if_pos rfl, List.append_nil]
  ·have := List.length_pos_iff.2 hz
   rw [if_pos (by omega), if_pos (by simp at ho; omega), if_neg hz]
 | x :: l, u, out, own, hd, hx, hw, ho, hq, hu, hE => by
  obtain ⟨h1, h2, h3⟩ := rd_drop hd
  obtain ⟨x0, x1⟩ := hx x List.mem_cons_self
  have hx' : ∀ y ∈ l, 0 ≤ y ∧ y < (cs.length : Int) := fun y hy => hx y (List.mem_cons_of_mem _ hy)
  simp only [List.length_cons] at hw ho hq
  unfold cutA at hE
  by_cases h35 : rd cs x = 35
  ·rw [if_pos h35] at hE
   by_cases hz : own = []
   ·rw [if_pos hz] at hE
    subst hz
    refine Ev.step (str_l1 cs w h n i P L r l (u + 1) out [] h3 hx' (by simp; omega) (by omega) (by omega) h1 hE) fun k => ?_
    simp only [impl_tray_stretches.l1]
    rw [if_pos (by omega), if_pos (by omega), if_pos (by omega), h2, if_pos x0, if_pos x1, if_pos h35, if_neg (by simp), wr1 u (by omega)]
   ·rw [if_neg hz] at hE
    have := List.length_pos_iff.2 hz
    refine Ev.step (str_l1 cs w h n i P L r l (u + 1) (out ++ [own]) [] h3 hx' (by simp; omega) (by simp; omega) (by omega) h1 (by rw [List.append_assoc]; exact hE)) fun k => ?_
    simp only [impl_tray_stretches.l1]
    rw [if_pos (by omega), if_pos (by omega), if_pos (by omega), h2, if_pos x0, if_pos x1, if_pos h35, if_pos (by omega), if_pos (by omega), wr1 u (by omega)]
  ·rw [if_neg h35] at hE
   refine Ev.step (str_l1 cs w h n i P L r l (u + 1) out (own ++ [x]) h3 hx' (by simp; omega) (by omega) (by omega) h1 hE) fun k => ?_
   simp only [impl_tray_stretches.l1]
   rw [if_pos (by omega), if_pos (by omega), if_pos (by omega), h2, if_pos x0, if_pos x1, if_neg h35, if_pos (by omega), wr1 u (by omega)]
theorem str_l0 (cs : List Int) (w h : Int) (P : List (List Int)) : ∀ (Ls : List (List Int)) (i : Nat) (out : List (List Int)), P.drop i = Ls → (∀ l ∈ Ls, l.length ≤ 7 ∧ ∀ x ∈ l, 0 ≤ x ∧ x < (cs.length : Int)) → out.length + 8 * Ls.length ≤ 900 → i ≤ P.length → i + Ls.length ≤ 100 →
  ∀ r, slices_SortFunc_str.f (out ++ Ls.flatMap fun l => cutA cs l []) = some r → Ev (fun k => impl_tray_stretches.l0 k out P (P.length : Int) (i : Int) w h cs) r
 | [], i, out, hd, _, _, hi, _, r, hE => by
  have hL : i = P.length := by
   have := congrArg List.length hd
   simp at this
   omega
  subst hL
  refine Ev.step (Ev.const hE) fun k => ?_
  simp only [impl_tray_stretches.l0]
  rw [if_neg (by omega), List.flatMap_nil, List.append_nil]
 | l :: Ls, i, out, hd, hb, hl, hi, hq, r, hE => by
  obtain ⟨h1, h2, h3⟩ := rdS_drop hd
  obtain ⟨b1, b2⟩ := hb l List.mem_cons_self
  have hcl := cutA_len cs l []
  simp only [List.length_cons] at hl hq
  rw [List.flatMap_cons, ← List.append_assoc] at hE
  have h5 := str_l0 cs w h P Ls (i + 1) (out ++ cutA cs l []) h3 (fun y hy => hb y (List.mem_cons_of_mem _ hy)) (by simp only [List.length_append]; omega) h1 (by omega) r hE
  rw [← wr1 i (by omega)] at h5
  refine Ev.step (str_l1 cs w h P.length i P l r l 0 out [] rfl b2 (by simp; omega) (by omega) (by omega) (Nat.zero_le _) h5) fun k => ?_
  simp only [impl_tray_stretches.l0]
  rw [if_pos (by omega), if_pos (by omega), if_pos (by omega), h2]
  rfl
def strL (w h : Nat) (cs : List Int) (d : Nat) : List (List Int) := (cutsL w h cs d).mergeSort leM
section
variable {w h : Nat} {cs : List Int} (hw : w ≤ 7) (hh : h ≤ 7) (hs : w * h ≤ 36) {d : Nat} (hd : d < 4)
include hw hh hs hd
theorem lines_many : (linesL w h (dirC d)).length ≤ 7 := by
 unfold linesL manyL
 rw [List.length_map, List.length_range]
 split <;> omega
theorem lines_in (hn : cs.length = w * h) : ∀ l ∈ linesL w h (dirC d), l.length ≤ 7 ∧ ∀ x ∈ l, 0 ≤ x ∧ x < (cs.length : Int) := fun l hl =>
 ⟨line_len hw hh hs hd hl, by rw [hn]; exact mem_chain hw hh hs hd l (-1) ((lines_ok hw hh hs hd).2.2 l hl)⟩
theorem cuts_in (hn : cs.length = w * h) : ∀ s ∈ cutsL w h cs d, s.length ≤ 1000 ∧ ∀ x ∈ s, 0 ≤ x ∧ x < ((w * h : Nat) : Int) := by
 intro s hm
 obtain ⟨l, hl, hsl⟩ := List.mem_flatMap.1 hm
 obtain ⟨h1, h2⟩ := lines_in hw hh hs hd hn l hl
 have hsub : ∀ x ∈ s, x ∈ l := fun x hx => by
  have := List.mem_flatten.2 ⟨s, hsl, hx⟩
  rw [cutA_flat, List.nil_append] at this
  exact (List.mem_filter.1 this).1
 refine ⟨?_, fun x hx => by rw [← hn]; exact h2 x (hsub x hx)⟩
 obtain ⟨_, _, p, q, e, _⟩ := (cutA_split cs l [] (fun _ hx => by cases hx) s).1 hsl
 have := congrArg List.length e
 simp only [List.nil_append, List.length_append] at this
 omega
theorem cuts_many : (cutsL w h cs d).length ≤ 56 := by
 have key : ∀ Ls : List (List Int), (∀ l ∈ Ls, l.length ≤ 7) → (Ls.flatMap fun l => cutA cs l []).length ≤ 8 * Ls.length := by
  intro Ls
  induction Ls with
  | nil => intro _; simp
  | cons l Ls ih =>
   intro hb
   have h1 := hb l List.mem_cons_self
   have h2 := ih fun y hy => hb y (List.mem_cons_of_mem _ hy)
   have h3 := cutA_len cs l []
   rw [List.flatMap_cons, List.length_append, List.length_cons]
   omega
 have h1 := key (linesL w h (dirC d)) fun l hl => line_len hw hh hs hd hl
 have h2 := lines_many hw hh hs hd
 unfold cutsL
 omega
theorem cuts_sortable (hn : cs.length = w * h) : sortable (cutsL w h cs d) = true := by
 refine sortable_of (by have := cuts_many hw hh hs hd (cs := cs); omega) (cuts_nodup hw hh hs hd) (cuts_ne hw hh hs hd) fun s hm => ?_
 obtain ⟨h1, h2⟩ := cuts_in hw hh hs hd hn s hm
 exact ⟨h1, fun x hx => by have := h2 x hx; omega⟩
theorem stretches_ev (hw0 : 0 < w) (hh0 : 0 < h) (hn : cs.length = w * h) : Ev (fun k => impl_tray_stretches.f k w h cs (dirC d)) (strL w h cs d) := by
 unfold impl_tray_stretches.f
 refine Ev.bind (lines_ev hw hh hs hw0 hh0 hd cs) ?_
 have h1 := lines_many hw hh hs hd
 refine str_l0 cs w h (linesL w h (dirC d)) (linesL w h (dirC d)) 0 [] rfl (lines_in hw hh hs hd hn) (by simp; omega) (Nat.zero_le _) (by omega) _ ?_
 rw [List.nil_append]
 exact if_pos (cuts_sortable hw hh hs hd hn)
end
end Go.Proofs.YtohfcmhidjaohaaDoor.Q
end
section
namespace Go.Proofs.YtohfcmhidjaohaaDoor.Q
open Go.RowKit Go.Proofs.YtohfcmhidjaohaaDoorW.PrintWords Go.Proofs.YtohfcmhidjaohaaDoorW.PrintLast Go.Proofs.YtohfcmhidjaohaaDoorW.PrintMore
attribute [local go_sem] max2_int min2_int max_two min_two max_three min_three max_four min_four
set_option linter.unusedVariables false
set_option linter.unusedSimpArgs false
def spec_l1Least.f (a0 : Int) (a1 : Int) : Option (Int) := if a0 < a1 then (some a0) else (some a1)
set_option maxHeartbeats 8000000 in
set_option maxRecDepth 100000 in
theorem spec_l1Least.calls (a0 : Int) (a1 : Int) (r : Int) (w : World) (h : spec_l1Least.f a0 a1 = some r) :
  Calls Tryd.prog 76 #[.int .i64 a0, .int .i64 a1] w fun e w' => e = .returned (.int .i64 r) ∧ Drawn0 w w' := by
 have H : (if a0 < a1 then (some a0) else (some a1)) = some r := h
 clear h
 by_cases c3 : a0 < a1
 ·rw [if_pos c3] at H
  have c3b0 : decide (a0 < a1) = true := decide_eq_true c3
  clear c3
  obtain rfl := Option.some.inj H
  go_enter Tryd.func76, Tryd.ntmps76
  go_wp2
  go_ret
  exact ⟨by first | rfl | (simp; done) | (simp [*]; done), by repeat (first | exact Drawn0.refl _ | apply Drawn0.step)⟩
 ·rw [if_neg c3] at H
  have c3b0 : decide (a0 < a1) = false := decide_eq_false c3
  clear c3
  obtain rfl := Option.some.inj H
  go_enter Tryd.func76, Tryd.ntmps76
  go_wp2
  go_ret
  exact ⟨by first | rfl | (simp; done) | (simp [*]; done), by repeat (first | exact Drawn0.refl _ | apply Drawn0.step)⟩
def spec_tiFirst.l0 : Nat → Int → List Int → Int → Int → Option (Int)
 | 0, _, _, _, _ => none
 | k + 1, x3, x9, x10, x11 => if x11 < x10 then (if 0 ≤ x11 then (if x11 < (x9.length : Int) then ((spec_l1Least.f x3 (rd x9 x11)).bind fun t103 => (spec_tiFirst.l0 k t103 x9 x10 (wrap64 (x11 + 1)))) else (none)) else (none)) else (some x3)
def spec_tiFirst.f (k : Nat) (l0 : List Int) : Option (Int) := if 0 < (l0.length : Int) then (spec_tiFirst.l0 k (rd l0 0) l0 (l0.length : Int) 0) else (none)
set_option maxHeartbeats 8000000 in
set_option maxRecDepth 100000 in
theorem spec_tiFirst.calls (k : Nat) (A0 : Option Addr) (c0 : Nat) (l0 : List Int) (r : Int) (w : World) (hr0 : Kd.C (Kd.int .i64) w A0 l0.length l0) (hc0 : l0.length ≤ c0) (h : spec_tiFirst.f k l0 = some r) :
  Calls Tryd.prog 53 #[.slice A0 l0.length c0] w fun e w' => e = .returned (.int .i64 r) ∧ Drawn0 w w' := by
 have HR0 := Aside0.mk hr0
 have HC0 := Aside0.mk hc0
 clear hr0 hc0
 have H : (if 0 < (l0.length : Int) then (spec_tiFirst.l0 k (rd l0 0) l0 (l0.length : Int) 0) else (none)) = some r := h
 clear h
 by_cases c2 : 0 < (l0.length : Int)
 ·rw [if_pos c2] at H
  have c2b0 : decide (0 < (l0.length : Int)) = true := decide_eq_true c2
  have c2b1 : decide (0 < l0.length) = true := decide_eq_true (by omega)
  clear c2
  have H' := Aside0.mk H
  clear H
  have p101 : 0 ≤ (0 : Int) := (by omega)
  have q101 : 0 < (l0.length : Int) := of_decide_eq_true (by first | (with_reducible assumption) | assumption)
  obtain ⟨ad101, e101, hx101_0⟩ := Kd.at_int HR0.out 0 p101 q101
  cases e101
  have qi101 : (0 < l0.length) = True := eq_true (by omega)
  (try rw [show ((0 : Int)).toNat = 0 from rfl] at hx101_0)
  (try rw [Addr.add_zero'] at hx101_0)
  replace p101 := eq_true p101
  replace q101 := eq_true q101
  go_enter Tryd.func53, Tryd.ntmps53
  go_wp2
  go_loopg [3, 11] k (fun kq v3 v11 w' => ∃ (x3_1 : Int) (x11_1 : Int), v3 = .int .i64 x3_1 ∧ v11 = .int .i64 x11_1 ∧ Aside0 (spec_tiFirst.l0 kq x3_1 l0 (l0.length : Int) x11_1 = some r) ∧ Aside0 (kq ≤ k) ∧ Drawn0 w w')
  case atStart => exact ⟨(rd l0 0), (0), (by first | rfl | (simp; done) | (simp [*]; done)), (by first | rfl | (simp; done) | (simp [*]; done)), H', ⟨Nat.le_refl _⟩, by repeat (first | exact Drawn0.refl _ | apply Drawn0.step)⟩
  case round =>
   clear H'
   try clear p1
   try clear q1
   try clear hx1
   try clear qi1
   try clear c2
   try clear c2b0
   try clear c2b0y
   try clear c2b1
   try clear p2
   try clear hx101_0
   try clear p101
   try clear q101
   obtain ⟨x3_1, x11_1, rfl, rfl, HA, HK1, ⟨m1, rfl⟩⟩ := hrel
   cases gk with
   | zero => exact absurd HA.out (by simp [spec_tiFirst.l0])
   | succ k1 =>
    have H := HA.out
    clear HA
    simp only [spec_tiFirst.l0] at H
    by_cases c3 : x11_1 < (l0.length : Int)
    ·rw [if_pos c3] at H
     have c3b0 : decide (x11_1 < (l0.length : Int)) = true := decide_eq_true c3
     clear c3
     by_cases c4 : 0 ≤ x11_1
     ·rw [if_pos c4] at H
      have c4b0 : decide (0 ≤ x11_1) = true := decide_eq_true c4
      clear c4
      by_cases c5 : x11_1 < (l0.length : Int)
      ·rw [if_pos c5] at H
       have c5b0 : decide (x11_1 < (l0.length : Int)) = true := decide_eq_true c5
       clear c5
       replace H := Option.bind_eq_some_iff.mp H
       obtain ⟨t103, A60, H⟩ := H
       replace H : (spec_tiFirst.l0 k1 t103 l0 (l0.length : Int) (wrap64 (x11_1 + 1))) = some r := H
       have A6 := Aside0.mk A60
       clear A60
       have H' := Aside0.mk H
       clear H
       have p102 : 0 ≤ (x11_1 : Int) := of_decide_eq_true (by first | (with_reducible assumption) | assumption)
       have q102 : x11_1 < (l0.length : Int) := of_decide_eq_true (by first | (with_reducible assumption) | assumption)
       obtain ⟨ad102, e102, hx102_0⟩ := Kd.at_int HR0.out x11_1 p102 q102
       obtain rfl : ad101 = ad102 := (by injection e102)
       replace p102 := eq_true p102
       replace q102 := eq_true q102
       go_wp2_with (first | ((with_reducible refine gate_callee (f := 76) rfl ?_); refine gcall (some 17) Tryd.func76 #[.int .i64 x3_1, .int .i64 (rd l0 x11_1)] rfl ?_; (with_reducible refine (spec_l1Least.calls x3_1 (rd l0 x11_1) t103 _ A6.out).mono ?_); rintro e w' ⟨rfl, ⟨nd, rfl⟩⟩; refine ⟨_, rfl, ?_⟩))
       go_roundg k1
       case measure => have := HK1.out; omega
       case rel => exact ⟨(t103), (wrap64 (x11_1 + 1)), (by first | rfl | (simp; done) | (simp [*]; done)), (by first | rfl | (simp; done) | (simp [*]; done)), H', ⟨by have := HK1.out; omega⟩, by repeat (first | exact Drawn0.refl _ | apply Drawn0.step)⟩
      ·rw [if_neg c5] at H
       exact absurd H (by simp)
     ·rw [if_neg c4] at H
      exact absurd H (by simp)
    ·rw [if_neg c3] at H
     have c3b0 : decide (x11_1 < (l0.length : Int)) = false := decide_eq_false c3
     clear c3
     obtain rfl := Option.some.inj H
     go_wp2
     go_ret
     exact ⟨by first | rfl | (simp; done) | (simp [*]; done), by repeat (first | exact Drawn0.refl _ | apply Drawn0.step)⟩
 ·rw [if_neg c2] at H
  exact absurd H (by simp)
mutual
def spec_tiStretches.l0 : Nat → Int → List (List Int) → List Int → Int → Int → Int → Int → List Int → Option ((List (List Int)))
 | 0, _, _, _, _, _, _, _, _ => none
 | k + 1, x1, x5, x13, x14, x15, x102000, x102001, x102002 => if x15 < x14 then (if 0 ≤ x15 then (if x15 < (x13.length : Int) then (if (rd x13 x15) = 35 then (spec_tiStretches.j1 k x1 x5 x15 x13 x14 x15 true x102000 x102001 x102002) else ((spec_tiAhead.f x102000 x102001 x102002 x15 x1).bind fun t103 => (spec_tiStretches.j1 k x1 x5 x15 x13 x14 x15 (decide (t103 ≥ 0)) x102000 x102001 x102002))) else (none)) else (none)) else (some x5)
def spec_tiStretches.j1 : Nat → Int → List (List Int) → Int → List Int → Int → Int → Bool → Int → Int → List Int → Option ((List (List Int)))
 | 0, _, _, _, _, _, _, _, _, _, _ => none
 | k + 1, x1, x5, x6, x13, x14, x15, x28, x102000, x102001, x102002 => if x28 = true then (spec_tiStretches.l0 k x1 x5 x13 x14 (wrap64 (x15 + 1)) x102000 x102001 x102002) else ((spec_tiAhead.f x102000 x102001 x102002 x6 (Int.tmod (wrap64 (x1 + 2)) 4)).bind fun t107 => (spec_tiStretches.l1 k x1 x5 (([x6] : List Int)) t107 x13 x14 x15 x102000 x102001 x102002))
def spec_tiStretches.l1 : Nat → Int → List (List Int) → List Int → Int → List Int → Int → Int → Int → Int → List Int → Option ((List (List Int)))
 | 0, _, _, _, _, _, _, _, _, _, _ => none
 | k + 1, x1, x5, x8, x9, x13, x14, x15, x102000, x102001, x102002 => if x9 ≥ 0 then (if x8.length < 17592186044416 then ((spec_tiAhead.f x102000 x102001 x102002 x9 (Int.tmod (wrap64 (x1 + 2)) 4)).bind fun t111 => (spec_tiStretches.l1 k x1 x5 (x8 ++ [x9]) t111 x13 x14 x15 x102000 x102001 x102002)) else (none)) else (spec_tiStretches.l2 k x1 x5 x8 0 x13 x14 x15 x102000 x102001 x102002)
def spec_tiStretches.l2 : Nat → Int → List (List Int) → List Int → Int → List Int → Int → Int → Int → Int → List Int → Option ((List (List Int)))
 | 0, _, _, _, _, _, _, _, _, _, _ => none
 | k + 1, x1, x5, x8, x10, x13, x14, x15, x102000, x102001, x102002 => if x10 < (x5.length : Int) then (if 0 ≤ x10 then ((spec_tiFirst.f k (rd_Lii x5 x10)).bind fun t113 => ((spec_tiFirst.f k x8).bind fun t114 => (if t113 < t114 then (spec_tiStretches.l2 k x1 x5 x8 (wrap64 (x10 + 1)) x13 x14 x15 x102000 x102001 x102002) else ((some (([] : List (List Int)) : List (List Int))).bind fun y115 => (if x10 ≤ (x5.length : Int) then ((some (x5.take (x10 : Int).toNat : List (List Int))).bind fun y118 => (if y115.length + y118.length < 5864062014805 then ((some (y115 ++ y118 : List (List Int))).bind fun y123 => (if y123.length < 5864062014805 then ((some (y123 ++ [x8] : List (List Int))).bind fun y126 => ((some (x5.drop (x10 : Int).toNat : List (List Int))).bind fun y129 => (if y126.length + y129.length < 5864062014805 then (spec_tiStretches.l0 k x1 (y126 ++ y129) x13 x14 (wrap64 (x15 + 1)) x102000 x102001 x102002) else (none)))) else (none))) else (none))) else (none)))))) else (none)) else ((some (([] : List (List Int)) : List (List Int))).bind fun y137 => (if 0 ≤ x10 then (if x10 ≤ (x5.length : Int) then ((some (x5.take (x10 : Int).toNat : List (List Int))).bind fun y140 => (if y137.length + y140.length < 5864062014805 then ((some (y137 ++ y140 : List (List Int))).bind fun y145 => (if y145.length < 5864062014805 then ((some (y145 ++ [x8] : List (List Int))).bind fun y148 => ((some (x5.drop (x10 : Int).toNat : List (List Int))).bind fun y151 => (if y148.length + y151.length < 5864062014805 then (spec_tiStretches.l0 k x1 (y148 ++ y151) x13 x14 (wrap64 (x15 + 1)) x102000 x102001 x102002) else (none)))) else (none))) else (none))) else (none)) else (none)))
end
def spec_tiStretches.f (k : Nat) (a0_0 : Int) (a0_1 : Int) (l0_2 : List Int) (a1 : Int) : Option ((List (List Int))) := spec_tiStretches.l0 k a1 ([] : List (List Int)) l0_2 (l0_2.length : Int) 0 a0_0 a0_1 l0_2
set_option maxHeartbeats 8000000 in
set_option maxRecDepth 100000 in
theorem spec_tiStretches.calls (k : Nat) (a0_0 : Int) (a0_1 : Int) (A0_2 : Option Addr) (c0_2 : Nat) (l0_2 : List Int) (a1 : Int) (r : List (List Int)) (w : World) (hr0_2 : Kd.C (Kd.int .u8) w A0_2 l0_2.length l0_2) (hc0_2 : l0_2.length ≤ c0_2) (h : spec_tiStretches.f k a0_0 a0_1 l0_2 a1 = some r) :
  Calls Tryd.prog 28 #[.agg #[.int .i64 a0_0, .int .i64 a0_1, .slice A0_2 l0_2.length c0_2], .int .i64 a1] w fun e w' => ∃ v0_ : Value, e = .returned (v0_) ∧ Kd.N (Kd.slice 3 (Kd.int .i64)) 46 w' w.heap.size (fun k_ => (w.heap.size ≤ k_)) v0_ r ∧ Below w.heap.size w w' := by
 have hu37 := Tryd.underlying37
 have HR0_2 := Aside0.mk hr0_2
 have HC0_2 := Aside0.mk hc0_2
 clear hr0_2 hc0_2
 have HB := Aside0.mk (Below.refl w.heap.size w)
 have H : (spec_tiStretches.l0 k a1 ([] : List (List Int)) l0_2 (l0_2.length : Int) 0 a0_0 a0_1 l0_2) = some r := h
 clear h
 have H' := Aside0.mk H
 clear H
 go_enter Tryd.func28, Tryd.ntmps28
 go_wp2_with (first | ((with_reducible refine gate_dst (N := 2) rfl ?_); refine boxE (N := 2) (cs := #[.int .i64 a0_0, .int .i64 a0_1, .slice A0_2 l0_2.length c0_2]) (t := 37) ?_; intro gb101 hg w3 hbox hb; have n0_ := Aside0.mk (below_step (bel HB) hb); have n1_ := Aside0.mk (hbox); have n2_ := Aside0.mk (gsz hg (bel HB)); have n3_ := Aside0.mk (gsz hg (bel HB)); clear HB; have HB := n0_; have BK101 := n1_; have GW101 := n2_; have GE101 := n3_; clear n0_ n1_ n2_ n3_; clear hb hbox hg; have hcz4_0 : w3.cell? ⟨gb101, 0, none⟩ = some (.int .i64 a0_0) := (blk_cell BK101.out 0).trans rfl; have hcz4_1 : w3.cell? ⟨gb101, 1, none⟩ = some (.int .i64 a0_1) := (blk_cell BK101.out 1).trans rfl; have hcz4_2 : w3.cell? ⟨gb101, 2, none⟩ = some (.slice A0_2 l0_2.length c0_2) := (blk_cell BK101.out 2).trans rfl; have hfz4_0 := blk_frozen BK101.out 0; have hfz4_1 := blk_frozen BK101.out 1; have hfz4_2 := blk_frozen BK101.out 2))
 go_loopg [5, 15] k (fun kq v5 v15 w' => ∃ (x5_1 : List (List Int)) (x15_1 : Int), v15 = .int .i64 x15_1 ∧ Aside0 (spec_tiStretches.l0 kq a1 x5_1 l0_2 (l0_2.length : Int) x15_1 a0_0 a0_1 l0_2 = some r) ∧ Aside0 (kq ≤ k) ∧ Aside0 (Kd.N (Kd.slice 3 (Kd.int .i64)) 46 w' w.heap.size (fun k_ => (w.heap.size ≤ k_) ∧ k_ ≠ gb101) v5 x5_1) ∧ Aside0 (w'.heap[gb101]? = some (.cells #[.int .i64 a0_0, .int .i64 a0_1, (.slice A0_2 l0_2.length c0_2)] 37 (0, 0))) ∧ Aside0 (Below w.heap.size w w'))
 case atStart => exact ⟨(([] : List (List Int))), (0), (by first | rfl | (simp; done) | (simp [*]; done)), H', ⟨Nat.le_refl _⟩, ⟨by first | exact Kd.S_nil _ _ _ _ _ | exact Kd.N_nil _ _ _ _ _ | exact Kd.V_nil _ _ _ _ _ | exact Kd.Q_nil _ _ _ _ _ | exact Kd.R_nil _ _ _ _ _⟩, ⟨blc⟩, ⟨bel HB⟩⟩
 case round =>
  clear H'
  try clear c2
  try clear p2
  try clear hcz4_0
  try clear hcz4_1
  try clear hcz4_2
  try clear hfz4_0
  try clear hfz4_1
  try clear hfz4_2
  obtain ⟨x5_1, x15_1, rfl, HA, HK1, HO_5, BK101, HB⟩ := hrel
  cases gk with
  | zero => exact absurd HA.out (by simp [spec_tiStretches.l0])
  | succ k1 =>
   have H := HA.out
   clear HA
   simp only [spec_tiStretches.l0] at H
   by_cases c5 : x15_1 < (l0_2.length : Int)
   ·rw [if_pos c5] at H
    have c5b0 : decide (x15_1 < (l0_2.length : Int)) = true := decide_eq_true c5
    clear c5
    by_cases c6 : 0 ≤ x15_1
    ·rw [if_pos c6] at H
     have c6b0 : decide (0 ≤ x15_1) = true := decide_eq_true c6
     clear c6
     by_cases c7 : x15_1 < (l0_2.length : Int)
     ·rw [if_pos c7] at H
      have c7b0 : decide (x15_1 < (l0_2.length : Int)) = true := decide_eq_true c7
      clear c7
      have HC8 := Aside0.mk H
      clear H
      have p102 : 0 ≤ (x15_1 : Int) := of_decide_eq_true (by first | (with_reducible assumption) | assumption)
      have q102 : x15_1 < (l0_2.length : Int) := of_decide_eq_true (by first | (with_reducible assumption) | assumption)
      obtain ⟨ad102, e102, hx102_0⟩ := Kd.at_int HR0_2.out x15_1 p102 q102
      cases e102
      (try replace hx102_0 := (HB.out.cell (World.block_lt_of_cell? w _ hx102_0)).trans hx102_0)
      replace p102 := eq_true p102
      replace q102 := eq_true q102
      go_upto_region 5 with (fail)
      go_cut [28] (fun v28 wc => ∃ (kq : Nat) (x28_7 : Bool), v28 = .bool x28_7 ∧ Aside0 (spec_tiStretches.j1 kq a1 x5_1 x15_1 l0_2 (l0_2.length : Int) x15_1 x28_7 a0_0 a0_1 l0_2 = some r) ∧ Aside0 (kq ≤ k1) ∧ Aside0 (Kd.N (Kd.slice 3 (Kd.int .i64)) 46 wc w.heap.size (fun k_ => (w.heap.size ≤ k_) ∧ k_ ≠ gb101) u5 x5_1) ∧ Aside0 (wc.heap[gb101]? = some (.cells #[.int .i64 a0_0, .int .i64 a0_1, (.slice (some ad102) l0_2.length c0_2)] 37 (0, 0))) ∧ Aside0 (Below w.heap.size w wc))
      case first =>
       have H := HC8.out
       clear HC8
       by_cases c9 : (rd l0_2 x15_1) = 35
       ·rw [if_pos c9] at H
        have c9b0 : ((rd l0_2 x15_1) == 35) = true := beq_iff_eq.mpr c9
        have c9b1 : ((rd l0_2 x15_1) != 35) = false := bne_eq_false_iff_eq.mpr c9
        clear c9
        (first | rw [c9b0] | (simp only [i64_w, i32_w]; rw [c9b0]) | skip)
        have H' := Aside0.mk H
        clear H
        go_wp2
        go_meet
        case rel => exact ⟨_, (true), (by first | rfl | (simp; done) | (simp [*]; done)), H', ⟨by have := HK1.out; first | omega | exact Nat.le_refl _⟩, ⟨by (with_reducible repeat (first | apply Kd.N_alloc | apply Kd.N_drewN | apply Kd.N_drew)); (first | exact HO_5.out | exact R_any HO_5.out)⟩, ⟨blc⟩, ⟨bel HB⟩⟩
       ·rw [if_neg c9] at H
        have c9b0 : ((rd l0_2 x15_1) == 35) = false := beq_eq_false_iff_ne.mpr c9
        have c9b1 : ((rd l0_2 x15_1) != 35) = true := bne_iff_ne.mpr c9
        (first | rw [c9b0] | (simp only [i64_w, i32_w]; rw [c9b0]) | skip)
        replace H := Option.bind_eq_some_iff.mp H
        obtain ⟨t103, A100, H⟩ := H
        replace H : (spec_tiStretches.j1 k1 a1 x5_1 x15_1 l0_2 (l0_2.length : Int) x15_1 (decide (t103 ≥ 0)) a0_0 a0_1 l0_2) = some r := H
        have A10 := Aside0.mk A100
        clear A100
        have H' := Aside0.mk H
        clear H
        have hcz11_0 : wr.cell? ⟨gb101, 0, none⟩ = some (.int .i64 a0_0) := (blk_cell BK101.out 0).trans rfl
        have hcz11_1 : wr.cell? ⟨gb101, 1, none⟩ = some (.int .i64 a0_1) := (blk_cell BK101.out 1).trans rfl
        have hcz11_2 : wr.cell? ⟨gb101, 2, none⟩ = some (.slice (some ad102) l0_2.length c0_2) := (blk_cell BK101.out 2).trans rfl
        have hfz11_0 := blk_frozen BK101.out 0
        have hfz11_1 := blk_frozen BK101.out 1
        have hfz11_2 := blk_frozen BK101.out 2
        go_wp2_with (first | (go_at_call 52; (with_reducible refine (spec_tiAhead.calls a0_0 a0_1 _ _ l0_2 x15_1 a1 t103 _ ?side1 ?side2 A10.out).mono ?_); (case side1 => repeat (first | exact (Kd.C_below HR0_2.out HB.out) | (with_reducible refine Kd.C_alloc ?_ _) | (with_reducible refine Kd.C_drewN ?_ _) | (with_reducible refine Kd.C_drew ?_))); (case side2 => exact HC0_2.out); rintro e w12 ⟨rfl, hb⟩; have n0_ := Aside0.mk (Kd.N_below (by (with_reducible repeat (first | apply Kd.N_alloc | apply Kd.N_drewN | apply Kd.N_drew)); (first | exact HO_5.out | exact R_any HO_5.out)) hb); have n1_ := Aside0.mk (blk_below (g := gb101) (o := .cells #[.int .i64 a0_0, .int .i64 a0_1, .slice (some ad102) l0_2.length c0_2] 37 (0, 0)) blc hb); have n2_ := Aside0.mk (below_step (bel HB) hb); clear HO_5; clear BK101; clear HB; have HO_5 := n0_; have BK101 := n1_; have HB := n2_; clear n0_ n1_ n2_; (try clear hb); (try clear hb2); (try clear hk); (try clear hi)))
        go_meet
        case rel => exact ⟨_, (decide (t103 ≥ 0)), (by first | rfl | (simp; done) | (simp [*]; done)), H', ⟨by have := HK1.out; first | omega | exact Nat.le_refl _⟩, ⟨by (with_reducible repeat (first | apply Kd.N_alloc | apply Kd.N_drewN | apply Kd.N_drew)); (first | exact HO_5.out | exact R_any HO_5.out)⟩, ⟨blc⟩, ⟨bel HB⟩⟩
      case rest =>
       clear HC8
       try clear p1
       try clear q1
       try clear hx1
       try clear c2
       try clear p2
       try clear c5
       try clear c5b0
       try clear c5b0y
       try clear c6
       try clear c6b0
       try clear c6b0y
       try clear c7
       try clear c7b0
       try clear c7b0y
       try clear c9
       try clear c9b0
       try clear c9b0y
       try clear c9b1
       try clear p10
       try clear q10
       try clear hx10
       try clear hcz11_0
       try clear hcz11_1
       try clear hcz11_2
       try clear hcz4_0
       try clear hcz4_1
       try clear hcz4_2
       try clear hfz11_0
       try clear hfz11_1
       try clear hfz11_2
       try clear hfz4_0
       try clear hfz4_1
       try clear hfz4_2
       try clear hx102_0
       try clear p102
       try clear p2
       try clear q102
       obtain ⟨kq, x28_7, rfl, HA, HJ7, HO_5, BK101, HB⟩ := hcut
       cases kq with
       | zero => exact absurd HA.out (by simp [spec_tiStretches.j1])
       | succ kj7 =>
        have H := HA.out
        clear HA
        simp only [spec_tiStretches.j1] at H
        by_cases c13 : x28_7 = true
        ·subst c13
         have H1 : (spec_tiStretches.l0 kj7 a1 x5_1 l0_2 (l0_2.length : Int) (wrap64 (x15_1 + 1)) a0_0 a0_1 l0_2) = some r := by rw [if_pos rfl] at H; exact H
         clear H
         have H := H1
         clear H1
         have H' := Aside0.mk H
         clear H
         go_wp2
         go_roundg kj7
         case measure => have := HK1.out; have := HJ7.out; omega
         case rel => exact ⟨(x5_1), (wrap64 (x15_1 + 1)), (by first | rfl | (simp; done) | (simp [*]; done)), H', ⟨by have := HK1.out; have := HJ7.out; omega⟩, ⟨by (with_reducible repeat (first | apply Kd.N_alloc | apply Kd.N_drewN | apply Kd.N_drew)); (first | exact HO_5.out | exact R_any HO_5.out)⟩, ⟨blc⟩, ⟨bel HB⟩⟩
        ·replace c13 := Bool.eq_false_iff.mpr c13
         subst c13
         have H1 : ((spec_tiAhead.f a0_0 a0_1 l0_2 x15_1 (Int.tmod (wrap64 (a1 + 2)) 4)).bind fun t107 => (spec_tiStretches.l1 kj7 a1 x5_1 (([x15_1] : List Int)) t107 l0_2 (l0_2.length : Int) x15_1 a0_0 a0_1 l0_2)) = some r := by rw [if_neg (show ¬ (false = true) by decide)] at H; exact H
         clear H
         have H := H1
         clear H1
         obtain ⟨y104, hy104⟩ : ∃ y_ : List Int, y_ = (([x15_1] : List Int)) := ⟨_, rfl⟩
         replace H : ((spec_tiAhead.f a0_0 a0_1 l0_2 x15_1 (Int.tmod (wrap64 (a1 + 2)) 4)).bind fun t107 => (spec_tiStretches.l1 kj7 a1 x5_1 y104 t107 l0_2 (l0_2.length : Int) x15_1 a0_0 a0_1 l0_2)) = some r := rH hy104 H
         have Ny104 := Aside0.mk hy104
         clear hy104
         replace H := Option.bind_eq_some_iff.mp H
         obtain ⟨t107, A140, H⟩ := H
         replace H : (spec_tiStretches.l1 kj7 a1 x5_1 y104 t107 l0_2 (l0_2.length : Int) x15_1 a0_0 a0_1 l0_2) = some r := H
         have A14 := Aside0.mk A140
         clear A140
         have H' := Aside0.mk H
         clear H
         go_wp2_with (first | ((with_reducible refine gate_dst (N := 30) rfl ?_); refine R_litG (Kd.int .i64) _ 3 ?hg (N := 30) ?hd (xs := ([x15_1] : List Int)) (inner := [.int .i64 x15_1]) (ok := fun _ => True) (okp := fun _ => True) ?hr ?hp (fun _ hk => hk) trivial (Below.refl _ _) (Nat.le_refl _) (by simp) ?_; (case hd => rfl); (case hg => first | rfl | decide | (simp [Region.wanted, yielded]; done) | (go_simp; done)); (case hr => first | (go_simp; done) | (go_simp; rfl)); (case hp => exact (Reps.one (show Kd.M (Kd.int .i64) _ _ _ x15_1 [.int .i64 x15_1] from rfl) (Reps.none _ _))); intro v105 w15 ho16 hb hg_ hnew_; clear hg_ hnew_; (first | rw [← Ny104.out] at ho16 | (simp only [Int.reduceToNat] at ho16; rw [← Ny104.out] at ho16)); have n0_ := Aside0.mk (Kd.N_elder' (by (with_reducible repeat (first | apply Kd.N_alloc | apply Kd.N_drewN | apply Kd.N_drew)); (first | exact HO_5.out | exact R_any HO_5.out)) (Kd.R_base ho16) hb); have n1_ := Aside0.mk (Kd.R_lower (Kd.R_newM (M := fun k_ => (w.heap.size ≤ k_)) ho16 (below_size (bel HB)) (fun k_ h_ => h_)) (below_size (bel HB))); have n2_ := Aside0.mk (blk_below (g := gb101) (o := .cells #[.int .i64 a0_0, .int .i64 a0_1, .slice (some ad102) l0_2.length c0_2] 37 (0, 0)) blc hb); have n3_ := Aside0.mk (below_step (bel HB) hb); clear HO_5; clear BK101; clear HB; have HO_5 := n0_; have HO106 := n1_; have BK101 := n2_; have HB := n3_; clear n0_ n1_ n2_ n3_; clear hb ho16; have hcz17_0 : w15.cell? ⟨gb101, 0, none⟩ = some (.int .i64 a0_0) := (blk_cell BK101.out 0).trans rfl; have hcz17_1 : w15.cell? ⟨gb101, 1, none⟩ = some (.int .i64 a0_1) := (blk_cell BK101.out 1).trans rfl; have hcz17_2 : w15.cell? ⟨gb101, 2, none⟩ = some (.slice (some ad102) l0_2.length c0_2) := (blk_cell BK101.out 2).trans rfl; have hfz17_0 := blk_frozen BK101.out 0; have hfz17_1 := blk_frozen BK101.out 1; have hfz17_2 := blk_frozen BK101.out 2) | ((with_reducible refine gate_callee (f := 52) rfl ?_); refine gcall (some 36) Tryd.func52 #[.agg #[.int .i64 a0_0, .int .i64 a0_1, .slice (some ad102) l0_2.length c0_2], .int .i64 x15_1, .int .i64 (Int.tmod (wrap64 (a1 + 2)) 4)] rfl ?_; (with_reducible refine (spec_tiAhead.calls a0_0 a0_1 _ _ l0_2 x15_1 (Int.tmod (wrap64 (a1 + 2)) 4) t107 _ ?side1 ?side2 A14.out).mono ?_); (case side1 => repeat (first | exact (Kd.C_below HR0_2.out HB.out) | (with_reducible refine Kd.C_alloc ?_ _) | (with_reducible refine Kd.C_drewN ?_ _) | (with_reducible refine Kd.C_drew ?_))); (case side2 => exact HC0_2.out); rintro e w18 ⟨rfl, hb⟩; refine ⟨_, rfl, ?_⟩; have n0_ := Aside0.mk (Kd.N_below (by (with_reducible repeat (first | apply Kd.N_alloc | apply Kd.N_drewN | apply Kd.N_drew)); (first | exact HO_5.out | exact R_any HO_5.out)) hb); have n1_ := Aside0.mk (Kd.R_below (rch HO106) hb); have n2_ := Aside0.mk (blk_below (g := gb101) (o := .cells #[.int .i64 a0_0, .int .i64 a0_1, .slice (some ad102) l0_2.length c0_2] 37 (0, 0)) blc hb); have n3_ := Aside0.mk (below_step (bel HB) hb); clear HO_5; clear HO106; clear BK101; clear HB; have HO_5 := n0_; have HO106 := n1_; have BK101 := n2_; have HB := n3_; clear n0_ n1_ n2_ n3_; (try clear hb); (try clear hb2); (try clear hk); (try clear hi)))
         go_loopg [8, 9] kj7 (fun kq v8 v9 w' => ∃ (x8_3 : List Int) (x9_3 : Int), v9 = .int .i64 x9_3 ∧ Aside0 (spec_tiStretches.l1 kq a1 x5_1 x8_3 x9_3 l0_2 (l0_2.length : Int) x15_1 a0_0 a0_1 l0_2 = some r) ∧ Aside0 (kq ≤ kj7) ∧ Aside0 (Kd.N (Kd.slice 3 (Kd.int .i64)) 46 w' w.heap.size (fun k_ => (w.heap.size ≤ k_) ∧ some k_ ≠ (v8 : Value).ownBlock ∧ k_ ≠ gb101) u5 x5_1) ∧ Aside0 (Kd.R (Kd.int .i64) 3 w' w.heap.size (fun k_ => (w.heap.size ≤ k_)) v8 x8_3) ∧ Aside0 (w'.heap[gb101]? = some (.cells #[.int .i64 a0_0, .int .i64 a0_1, (.slice (some ad102) l0_2.length c0_2)] 37 (0, 0))) ∧ Aside0 (Below w.heap.size w w'))
         case atStart => exact ⟨(y104), (t107), (by first | rfl | (simp; done) | (simp [*]; done)), H', ⟨Nat.le_refl _⟩, ⟨by (with_reducible repeat (first | apply Kd.N_alloc | apply Kd.N_drewN | apply Kd.N_drew)); exact Kd.N_mono HO_5.out (fun _ hk => ⟨hk.1.1, ⟨hk.2, hk.1.2⟩⟩)⟩, ⟨by (with_reducible repeat (first | apply Kd.R_alloc | apply Kd.R_drewN | apply Kd.R_drew)); exact Kd.R_mono HO106.out (fun _ hk => hk.1)⟩, ⟨blc⟩, ⟨bel HB⟩⟩
         case round =>
          clear H'
          try clear c1
          try clear p1
          try clear q1
          try clear hx1
          try clear c2
          try clear p2
          try clear c5
          try clear c5b0
          try clear c5b0y
          try clear c6
          try clear c6b0
          try clear c6b0y
          try clear p6
          try clear c7
          try clear c7b0
          try clear c7b0y
          try clear c9
          try clear c9b0
          try clear c9b0y
          try clear c9b1
          try clear p10
          try clear q10
          try clear hx10
          try clear c13
          try clear hcz11_0
          try clear hcz11_1
          try clear hcz11_2
          try clear hcz17_0
          try clear hcz17_1
          try clear hcz17_2
          try clear hcz4_0
          try clear hcz4_1
          try clear hcz4_2
          try clear hfz11_0
          try clear hfz11_1
          try clear hfz11_2
          try clear hfz17_0
          try clear hfz17_1
          try clear hfz17_2
          try clear hfz4_0
          try clear hfz4_1
          try clear hfz4_2
          try clear hx102_0
          try clear p1
          try clear p10
          try clear p102
          try clear p2
          try clear q1
          try clear q10
          try clear q102
          obtain ⟨x8_3, x9_3, rfl, HA, HK3, HO_5, HO_8, BK101, HB⟩ := hrel
          cases gk with
          | zero => exact absurd HA.out (by simp [spec_tiStretches.l1])
          | succ k3 =>
           have H := HA.out
           clear HA
           simp only [spec_tiStretches.l1] at H
           by_cases c19 : x9_3 ≥ 0
           ·rw [if_pos c19] at H
            have c19b0 : decide (0 ≤ x9_3) = true := decide_eq_true c19
            clear c19
            by_cases c20 : x8_3.length < 17592186044416
            ·rw [if_pos c20] at H
             have LMc20 := Aside0.mk c20
             clear c20
             obtain ⟨y108, hy108⟩ : ∃ y_ : List Int, y_ = (x8_3 ++ [x9_3]) := ⟨_, rfl⟩
             replace H : ((spec_tiAhead.f a0_0 a0_1 l0_2 x9_3 (Int.tmod (wrap64 (a1 + 2)) 4)).bind fun t111 => (spec_tiStretches.l1 k3 a1 x5_1 y108 t111 l0_2 (l0_2.length : Int) x15_1 a0_0 a0_1 l0_2)) = some r := rH hy108 H
             have Ny108 := Aside0.mk hy108
             clear hy108
             replace H := Option.bind_eq_some_iff.mp H
             obtain ⟨t111, A210, H⟩ := H
             replace H : (spec_tiStretches.l1 k3 a1 x5_1 y108 t111 l0_2 (l0_2.length : Int) x15_1 a0_0 a0_1 l0_2) = some r := H
             have A21 := Aside0.mk A210
             clear A210
             have H' := Aside0.mk H
             clear H
             go_wp2_with (first | ((with_reducible refine gate_builtin (b := .append) (xs := #[.tmp 45, .tmp 47]) rfl ?_); at_builtin; refine Kd.R_append (Kd.int .i64) (w0 := w) w.heap.size rfl (.tmp 45) (.tmp 47) 46 3 (.int .i64 0) 8 rfl Tryd.underlying46 info3 rfl (by decide) (by omega) u8 x8_3 x9_3 [.int .i64 x9_3] (fun k_ => (w.heap.size ≤ k_)) (fun _ => False) rfl rfl ?aP (fun _ hk => hk.elim) ?aF ?aO ?aB ?aS ?aL ?_; (case aP => exact rfl); (case aB => exact (bel HB)); (case aF => exact (fun k_ hk => (Nat.le_trans (below_size (bel HB)) hk))); (case aO => exact (rch HO_8)); (case aS => exact (below_size (bel HB))); (case aL => have := LMc20.out; omega); intro v109 w22 ho hb hg hat; rw [← Ny108.out] at ho; have n0_ := Aside0.mk (Kd.N_afterv (ok := (fun k_ => (w.heap.size ≤ k_) ∧ k_ ≠ gb101)) (by (with_reducible repeat (first | apply Kd.N_alloc | apply Kd.N_drewN | apply Kd.N_drew)); exact Kd.N_mono HO_5.out (fun _ hk => ⟨⟨hk.1, hk.2.2⟩, hk.2.1⟩)) hg hat); have n1_ := Aside0.mk (blk_grown (g := gb101) (o := .cells #[.int .i64 a0_0, .int .i64 a0_1, .slice (some ad102) l0_2.length c0_2] 37 (0, 0)) blc hg (Kd.R_ne HO_8.out BK101.out (by decide))); have n2_ := Aside0.mk (hb); have n3_ := Aside0.mk (ho); clear HO_5; clear BK101; clear HB; clear HO_8; have HO_5 := n0_; have BK101 := n1_; have HB := n2_; have HO110 := n3_; clear n0_ n1_ n2_ n3_; clear ho hb hg hat; have hcz23_0 : w22.cell? ⟨gb101, 0, none⟩ = some (.int .i64 a0_0) := (blk_cell BK101.out 0).trans rfl; have hcz23_1 : w22.cell? ⟨gb101, 1, none⟩ = some (.int .i64 a0_1) := (blk_cell BK101.out 1).trans rfl; have hcz23_2 : w22.cell? ⟨gb101, 2, none⟩ = some (.slice (some ad102) l0_2.length c0_2) := (blk_cell BK101.out 2).trans rfl; have hfz23_0 := blk_frozen BK101.out 0; have hfz23_1 := blk_frozen BK101.out 1; have hfz23_2 := blk_frozen BK101.out 2) | ((with_reducible refine gate_callee (f := 52) rfl ?_); refine gcall (some 44) Tryd.func52 #[.agg #[.int .i64 a0_0, .int .i64 a0_1, .slice (some ad102) l0_2.length c0_2], .int .i64 x9_3, .int .i64 (Int.tmod (wrap64 (a1 + 2)) 4)] rfl ?_; (with_reducible refine (spec_tiAhead.calls a0_0 a0_1 _ _ l0_2 x9_3 (Int.tmod (wrap64 (a1 + 2)) 4) t111 _ ?side1 ?side2 A21.out).mono ?_); (case side1 => repeat (first | exact (Kd.C_below HR0_2.out HB.out) | (with_reducible refine Kd.C_alloc ?_ _) | (with_reducible refine Kd.C_drewN ?_ _) | (with_reducible refine Kd.C_drew ?_))); (case side2 => exact HC0_2.out); rintro e w24 ⟨rfl, hb⟩; refine ⟨_, rfl, ?_⟩; have n0_ := Aside0.mk (Kd.N_below (by (with_reducible repeat (first | apply Kd.N_alloc | apply Kd.N_drewN | apply Kd.N_drew)); (first | exact HO_5.out | exact R_any HO_5.out)) hb); have n1_ := Aside0.mk (Kd.R_below (rch HO110) hb); have n2_ := Aside0.mk (blk_below (g := gb101) (o := .cells #[.int .i64 a0_0, .int .i64 a0_1, .slice (some ad102) l0_2.length c0_2] 37 (0, 0)) blc hb); have n3_ := Aside0.mk (below_step (bel HB) hb); clear HO_5; clear HO110; clear BK101; clear HB; have HO_5 := n0_; have HO110 := n1_; have BK101 := n2_; have HB := n3_; clear n0_ n1_ n2_ n3_; (try clear hb); (try clear hb2); (try clear hk); (try clear hi)))
             go_roundg k3
             case measure => have := HK1.out; have := HJ7.out; have := HK3.out; omega
             case rel => exact ⟨(y108), (t111), (by first | rfl | (simp; done) | (simp [*]; done)), H', ⟨by have := HK1.out; have := HJ7.out; have := HK3.out; omega⟩, ⟨by (with_reducible repeat (first | apply Kd.N_alloc | apply Kd.N_drewN | apply Kd.N_drew)); exact Kd.N_mono HO_5.out (fun _ hk => ⟨hk.1.1, ⟨hk.2, hk.1.2⟩⟩)⟩, ⟨rch HO110⟩, ⟨blc⟩, ⟨bel HB⟩⟩
            ·rw [if_neg c20] at H
             exact absurd H (by simp)
           ·rw [if_neg c19] at H
            have c19b0 : decide (0 ≤ x9_3) = false := decide_eq_false c19
            clear c19
            have H' := Aside0.mk H
            clear H
            go_wp2
            go_loopg [10] k3 (fun kq v10 w' => ∃ (x10_4 : Int), v10 = .int .i64 x10_4 ∧ Aside0 (spec_tiStretches.l2 kq a1 x5_1 x8_3 x10_4 l0_2 (l0_2.length : Int) x15_1 a0_0 a0_1 l0_2 = some r) ∧ Aside0 (kq ≤ k3) ∧ Aside0 (Kd.N (Kd.slice 3 (Kd.int .i64)) 46 w' w.heap.size (fun k_ => (w.heap.size ≤ k_) ∧ some k_ ≠ (u8 : Value).ownBlock ∧ k_ ≠ gb101) u5 x5_1) ∧ Aside0 (Kd.R (Kd.int .i64) 3 w' w.heap.size (fun k_ => (w.heap.size ≤ k_)) u8 x8_3) ∧ Aside0 (w'.heap[gb101]? = some (.cells #[.int .i64 a0_0, .int .i64 a0_1, (.slice (some ad102) l0_2.length c0_2)] 37 (0, 0))) ∧ Aside0 (Below w.heap.size w w'))
            case atStart => exact ⟨(0), (by first | rfl | (simp; done) | (simp [*]; done)), H', ⟨Nat.le_refl _⟩, ⟨by (with_reducible repeat (first | apply Kd.N_alloc | apply Kd.N_drewN | apply Kd.N_drew)); (first | exact HO_5.out | exact R_any HO_5.out)⟩, ⟨rch HO_8⟩, ⟨blc⟩, ⟨bel HB⟩⟩
            case round =>
             clear H'
             try clear c1
             try clear p1
             try clear q1
             try clear hx1
             try clear c2
             try clear p2
             try clear c5
             try clear c5b0
             try clear c5b0y
             try clear c6
             try clear c6b0
             try clear c6b0y
             try clear p6
             try clear c7
             try clear c7b0
             try clear c7b0y
             try clear c9
             try clear c9b0
             try clear c9b0y
             try clear c9b1
             try clear p10
             try clear q10
             try clear hx10
             try clear c13
             try clear c19
             try clear c19b0
             try clear c19b0y
             try clear c20
             try clear hcz11_0
             try clear hcz11_1
             try clear hcz11_2
             try clear hcz17_0
             try clear hcz17_1
             try clear hcz17_2
             try clear hcz23_0
             try clear hcz23_1
             try clear hcz23_2
             try clear hcz4_0
             try clear hcz4_1
             try clear hcz4_2
             try clear hfz11_0
             try clear hfz11_1
             try clear hfz11_2
             try clear hfz17_0
             try clear hfz17_1
             try clear hfz17_2
             try clear hfz23_0
             try clear hfz23_1
             try clear hfz23_2
             try clear hfz4_0
             try clear hfz4_1
             try clear hfz4_2
             try clear hx102_0
             try clear p1
             try clear p10
             try clear p102
             try clear p2
             try clear p6
             try clear q1
             try clear q10
             try clear q102
             obtain ⟨x10_4, rfl, HA, HK4, HO_5, HO_8, BK101, HB⟩ := hrel
             cases gk with
             | zero => exact absurd HA.out (by simp [spec_tiStretches.l2])
             | succ k4 =>
              have H := HA.out
              clear HA
              simp only [spec_tiStretches.l2] at H
              by_cases c25 : x10_4 < (x5_1.length : Int)
              ·rw [if_pos c25] at H
               have c25b0 : decide (x10_4 < (x5_1.length : Int)) = true := decide_eq_true c25
               clear c25
               by_cases c26 : 0 ≤ x10_4
               ·rw [if_pos c26] at H
                have c26b0 : decide (0 ≤ x10_4) = true := decide_eq_true c26
                clear c26
                replace H := Option.bind_eq_some_iff.mp H
                obtain ⟨t113, A270, H⟩ := H
                replace H : ((spec_tiFirst.f k4 x8_3).bind fun t114 => (if t113 < t114 then (spec_tiStretches.l2 k4 a1 x5_1 x8_3 (wrap64 (x10_4 + 1)) l0_2 (l0_2.length : Int) x15_1 a0_0 a0_1 l0_2) else ((some (([] : List (List Int)) : List (List Int))).bind fun y115 => (if x10_4 ≤ (x5_1.length : Int) then ((some (x5_1.take (x10_4 : Int).toNat : List (List Int))).bind fun y118 => (if y115.length + y118.length < 5864062014805 then ((some (y115 ++ y118 : List (List Int))).bind fun y123 => (if y123.length < 5864062014805 then ((some (y123 ++ [x8_3] : List (List Int))).bind fun y126 => ((some (x5_1.drop (x10_4 : Int).toNat : List (List Int))).bind fun y129 => (if y126.length + y129.length < 5864062014805 then (spec_tiStretches.l0 k4 a1 (y126 ++ y129) l0_2 (l0_2.length : Int) (wrap64 (x15_1 + 1)) a0_0 a0_1 l0_2) else (none)))) else (none))) else (none))) else (none))))) = some r := H
                have A27 := Aside0.mk A270
                clear A270
                replace H := Option.bind_eq_some_iff.mp H
                obtain ⟨t114, A280, H⟩ := H
                replace H : (if t113 < t114 then (spec_tiStretches.l2 k4 a1 x5_1 x8_3 (wrap64 (x10_4 + 1)) l0_2 (l0_2.length : Int) x15_1 a0_0 a0_1 l0_2) else ((some (([] : List (List Int)) : List (List Int))).bind fun y115 => (if x10_4 ≤ (x5_1.length : Int) then ((some (x5_1.take (x10_4 : Int).toNat : List (List Int))).bind fun y118 => (if y115.length + y118.length < 5864062014805 then ((some (y115 ++ y118 : List (List Int))).bind fun y123 => (if y123.length < 5864062014805 then ((some (y123 ++ [x8_3] : List (List Int))).bind fun y126 => ((some (x5_1.drop (x10_4 : Int).toNat : List (List Int))).bind fun y129 => (if y126.length + y129.length < 5864062014805 then (spec_tiStretches.l0 k4 a1 (y126 ++ y129) l0_2 (l0_2.length : Int) (wrap64 (x15_1 + 1)) a0_0 a0_1 l0_2) else (none)))) else (none))) else (none))) else (none)))) = some r := H
                have A28 := Aside0.mk A280
                clear A280
                by_cases c29 : t113 < t114
                ·rw [if_pos c29] at H
                 have c29b0 : decide (t113 < t114) = true := decide_eq_true c29
                 clear c29
                 have H' := Aside0.mk H
                 clear H
                 obtain ⟨Ao30, co30, eo30⟩ := Kd.N_slice HO_5.out
                 subst eo30
                 have p112 : 0 ≤ (x10_4 : Int) := of_decide_eq_true (by first | (with_reducible assumption) | assumption)
                 have q112 : x10_4 < (x5_1.length : Int) := of_decide_eq_true (by first | (with_reducible assumption) | assumption)
                 obtain ⟨ad112, A112_0, c112_0, e112, hx112_0, hl112_0, hi112_0⟩ := at_Lii (Kd.N_reads' HO_5.out).2.2 x10_4 p112 q112
                 cases e112
                 obtain ⟨ce112, hce112, hMe112, hcc112⟩ := Kd.N_get HO_5.out [] x10_4 p112 (by first | exact q112 | exact of_decide_eq_true (by first | (with_reducible assumption) | assumption) | (have e_ := (Kd.N_reads' HO_5.out).1; omega))
                 obtain ⟨ua112_0, uc112_0, rfl, ul112_0, ge112_0⟩ := Kd.FK_slice_open hMe112
                 have hv112_0 := hcc112 0 _ rfl
                 rw [Nat.add_zero, show ((Kd.slice 3 (Kd.int .i64))).sz = 1 from rfl, Nat.mul_one] at hv112_0
                 replace hv112_0 := Option.some.inj (hv112_0.symm.trans hx112_0)
                 injection hv112_0 with hva_ hvn_ hvc_
                 rw [hva_] at ge112_0
                 rw [hvc_] at ul112_0
                 have HL112_0 := Aside0.mk (show Kd.V (Kd.int .i64) 3 _ w.heap.size _ _ (rd_Lii x5_1 x10_4) from Kd.V_mk ul112_0 ge112_0)
                 clear hva_ hvn_ hvc_ ge112_0 ul112_0
                 clear hcc112 hce112
                 have HR112_0 := Aside0.mk hi112_0
                 have HC112_0 := Aside0.mk hl112_0
                 clear hi112_0 hl112_0
                 replace p112 := eq_true p112
                 replace q112 := eq_true q112
                 go_wp2_with (first | (go_at_call 53; (with_reducible refine (spec_tiFirst.calls k4 _ _ (rd_Lii x5_1 x10_4) t113 _ ?side1 ?side2 A27.out).mono ?_); (case side1 => repeat (first | exact (by repeat (first | (with_reducible exact HR112_0.out) | (with_reducible refine Kd.C_alloc ?_ _) | (with_reducible refine Kd.C_drewN ?_ _) | (with_reducible refine Kd.C_drew ?_) | exact HR112_0.out)) | (with_reducible refine Kd.C_alloc ?_ _) | (with_reducible refine Kd.C_drewN ?_ _) | (with_reducible refine Kd.C_drew ?_))); (case side2 => exact HC112_0.out); rintro e w' ⟨rfl, ⟨nd, rfl⟩⟩; obtain ⟨Ao31, co31, eo31⟩ := Kd.R_slice HO_8.out; subst eo31) | (go_at_call 53; (with_reducible refine (spec_tiFirst.calls k4 _ _ x8_3 t114 _ ?side1 ?side2 A28.out).mono ?_); (case side1 => repeat (first | exact (Kd.R_reads' HO_8.out).2.2 | (with_reducible refine Kd.C_alloc ?_ _) | (with_reducible refine Kd.C_drewN ?_ _) | (with_reducible refine Kd.C_drew ?_))); (case side2 => exact (Kd.R_reads' HO_8.out).2.1); rintro e w' ⟨rfl, ⟨nd, rfl⟩⟩))
                 go_roundg k4
                 case measure => have := HK1.out; have := HJ7.out; have := HK3.out; have := HK4.out; omega
                 case rel => exact ⟨(wrap64 (x10_4 + 1)), (by first | rfl | (simp; done) | (simp [*]; done)), H', ⟨by have := HK1.out; have := HJ7.out; have := HK3.out; have := HK4.out; omega⟩, ⟨by (with_reducible repeat (first | apply Kd.N_alloc | apply Kd.N_drewN | apply Kd.N_drew)); (first | exact HO_5.out | exact R_any HO_5.out)⟩, ⟨rch HO_8⟩, ⟨blc⟩, ⟨bel HB⟩⟩
                ·rw [if_neg c29] at H
                 have c29b0 : decide (t113 < t114) = false := decide_eq_false c29
                 clear c29
                 obtain ⟨y115, hy115⟩ : ∃ y_ : List (List Int), y_ = (([] : List (List Int))) := ⟨_, rfl⟩
                 replace H : (if x10_4 ≤ (x5_1.length : Int) then ((some (x5_1.take (x10_4 : Int).toNat : List (List Int))).bind fun y118 => (if y115.length + y118.length < 5864062014805 then ((some (y115 ++ y118 : List (List Int))).bind fun y123 => (if y123.length < 5864062014805 then ((some (y123 ++ [x8_3] : List (List Int))).bind fun y126 => ((some (x5_1.drop (x10_4 : Int).toNat : List (List Int))).bind fun y129 => (if y126.length + y129.length < 5864062014805 then (spec_tiStretches.l0 k4 a1 (y126 ++ y129) l0_2 (l0_2.length : Int) (wrap64 (x15_1 + 1)) a0_0 a0_1 l0_2) else (none)))) else (none))) else (none))) else (none)) = some r := rH hy115 H
                 have Ny115 := Aside0.mk hy115
                 clear hy115
                 have c32b0 := eq_true (of_decide_eq_true (by first | (with_reducible assumption) | assumption) : 0 ≤ x10_4)
                 by_cases c33 : x10_4 ≤ (x5_1.length : Int)
                 ·rw [if_pos c33] at H
                  have c33b0 := eq_true c33
                  have c33b1 : decide (x10_4 ≤ (x5_1.length : Int)) = true := decide_eq_true c33
                  clear c33
                  obtain ⟨y118, hy118⟩ : ∃ y_ : List (List Int), y_ = (x5_1.take (x10_4 : Int).toNat) := ⟨_, rfl⟩
                  replace H : (if y115.length + y118.length < 5864062014805 then ((some (y115 ++ y118 : List (List Int))).bind fun y123 => (if y123.length < 5864062014805 then ((some (y123 ++ [x8_3] : List (List Int))).bind fun y126 => ((some (x5_1.drop (x10_4 : Int).toNat : List (List Int))).bind fun y129 => (if y126.length + y129.length < 5864062014805 then (spec_tiStretches.l0 k4 a1 (y126 ++ y129) l0_2 (l0_2.length : Int) (wrap64 (x15_1 + 1)) a0_0 a0_1 l0_2) else (none)))) else (none))) else (none)) = some r := rH hy118 H
                  have Ny118 := Aside0.mk hy118
                  clear hy118
                  by_cases c34 : y115.length + y118.length < 5864062014805
                  ·rw [if_pos c34] at H
                   have LMc34 := Aside0.mk c34
                   clear c34
                   obtain ⟨y123, hy123⟩ : ∃ y_ : List (List Int), y_ = (y115 ++ y118) := ⟨_, rfl⟩
                   replace H : (if y123.length < 5864062014805 then ((some (y123 ++ [x8_3] : List (List Int))).bind fun y126 => ((some (x5_1.drop (x10_4 : Int).toNat : List (List Int))).bind fun y129 => (if y126.length + y129.length < 5864062014805 then (spec_tiStretches.l0 k4 a1 (y126 ++ y129) l0_2 (l0_2.length : Int) (wrap64 (x15_1 + 1)) a0_0 a0_1 l0_2) else (none)))) else (none)) = some r := rH hy123 H
                   have Ny123 := Aside0.mk hy123
                   clear hy123
                   by_cases c35 : y123.length < 5864062014805
                   ·rw [if_pos c35] at H
                    have LMc35 := Aside0.mk c35
                    clear c35
                    obtain ⟨y126, hy126⟩ : ∃ y_ : List (List Int), y_ = (y123 ++ [x8_3]) := ⟨_, rfl⟩
                    replace H : ((some (x5_1.drop (x10_4 : Int).toNat : List (List Int))).bind fun y129 => (if y126.length + y129.length < 5864062014805 then (spec_tiStretches.l0 k4 a1 (y126 ++ y129) l0_2 (l0_2.length : Int) (wrap64 (x15_1 + 1)) a0_0 a0_1 l0_2) else (none))) = some r := rH hy126 H
                    have Ny126 := Aside0.mk hy126
                    clear hy126
                    have c36b0 := eq_true (of_decide_eq_true (by first | (with_reducible assumption) | assumption) : 0 ≤ x10_4)
                    have c37b0 := eq_true (of_decide_eq_true (by first | (with_reducible assumption) | assumption) : x10_4 ≤ (x5_1.length : Int))
                    obtain ⟨y129, hy129⟩ : ∃ y_ : List (List Int), y_ = (x5_1.drop (x10_4 : Int).toNat) := ⟨_, rfl⟩
                    replace H : (if y126.length + y129.length < 5864062014805 then (spec_tiStretches.l0 k4 a1 (y126 ++ y129) l0_2 (l0_2.length : Int) (wrap64 (x15_1 + 1)) a0_0 a0_1 l0_2) else (none)) = some r := rH hy129 H
                    have Ny129 := Aside0.mk hy129
                    clear hy129
                    by_cases c38 : y126.length + y129.length < 5864062014805
                    ·rw [if_pos c38] at H
                     have LMc38 := Aside0.mk c38
                     clear c38
                     obtain ⟨y134, hy134⟩ : ∃ y_ : List (List Int), y_ = (y126 ++ y129) := ⟨_, rfl⟩
                     replace H : (spec_tiStretches.l0 k4 a1 y134 l0_2 (l0_2.length : Int) (wrap64 (x15_1 + 1)) a0_0 a0_1 l0_2) = some r := rH hy134 H
                     have Ny134 := Aside0.mk hy134
                     clear hy134
                     have H' := Aside0.mk H
                     clear H
                     obtain ⟨Ao39, co39, eo39⟩ := Kd.N_slice HO_5.out
                     subst eo39
                     have p112 : 0 ≤ (x10_4 : Int) := of_decide_eq_true (by first | (with_reducible assumption) | assumption)
                     have q112 : x10_4 < (x5_1.length : Int) := of_decide_eq_true (by first | (with_reducible assumption) | assumption)
                     obtain ⟨ad112, A112_0, c112_0, e112, hx112_0, hl112_0, hi112_0⟩ := at_Lii (Kd.N_reads' HO_5.out).2.2 x10_4 p112 q112
                     cases e112
                     obtain ⟨ce112, hce112, hMe112, hcc112⟩ := Kd.N_get HO_5.out [] x10_4 p112 (by first | exact q112 | exact of_decide_eq_true (by first | (with_reducible assumption) | assumption) | (have e_ := (Kd.N_reads' HO_5.out).1; omega))
                     obtain ⟨ua112_0, uc112_0, rfl, ul112_0, ge112_0⟩ := Kd.FK_slice_open hMe112
                     have hv112_0 := hcc112 0 _ rfl
                     rw [Nat.add_zero, show ((Kd.slice 3 (Kd.int .i64))).sz = 1 from rfl, Nat.mul_one] at hv112_0
                     replace hv112_0 := Option.some.inj (hv112_0.symm.trans hx112_0)
                     injection hv112_0 with hva_ hvn_ hvc_
                     rw [hva_] at ge112_0
                     rw [hvc_] at ul112_0
                     have HL112_0 := Aside0.mk (show Kd.V (Kd.int .i64) 3 _ w.heap.size _ _ (rd_Lii x5_1 x10_4) from Kd.V_mk ul112_0 ge112_0)
                     clear hva_ hvn_ hvc_ ge112_0 ul112_0
                     clear hcc112 hce112
                     have HR112_0 := Aside0.mk hi112_0
                     have HC112_0 := Aside0.mk hl112_0
                     clear hi112_0 hl112_0
                     replace p112 := eq_true p112
                     replace q112 := eq_true q112
                     go_wp2_with (first | (go_at_call 53; (with_reducible refine (spec_tiFirst.calls k4 _ _ (rd_Lii x5_1 x10_4) t113 _ ?side1 ?side2 A27.out).mono ?_); (case side1 => repeat (first | exact (by repeat (first | (with_reducible exact HR112_0.out) | (with_reducible refine Kd.C_alloc ?_ _) | (with_reducible refine Kd.C_drewN ?_ _) | (with_reducible refine Kd.C_drew ?_) | exact HR112_0.out)) | (with_reducible refine Kd.C_alloc ?_ _) | (with_reducible refine Kd.C_drewN ?_ _) | (with_reducible refine Kd.C_drew ?_))); (case side2 => exact HC112_0.out); rintro e w' ⟨rfl, ⟨nd, rfl⟩⟩; obtain ⟨Ao40, co40, eo40⟩ := Kd.R_slice HO_8.out; subst eo40) | (go_at_call 53; (with_reducible refine (spec_tiFirst.calls k4 _ _ x8_3 t114 _ ?side1 ?side2 A28.out).mono ?_); (case side1 => repeat (first | exact (Kd.R_reads' HO_8.out).2.2 | (with_reducible refine Kd.C_alloc ?_ _) | (with_reducible refine Kd.C_drewN ?_ _) | (with_reducible refine Kd.C_drew ?_))); (case side2 => exact (Kd.R_reads' HO_8.out).2.1); rintro e w' ⟨rfl, ⟨nd, rfl⟩⟩) | ((with_reducible refine gate_dst (N := 65) rfl ?_); refine Kd.N_lit (Kd.slice 3 (Kd.int .i64)) _ 46 ?hg (N' := 65) ?hd (xs := ([] : List (List Int))) (inner := []) (ok := (fun k_ => (w.heap.size ≤ k_) ∧ some k_ ≠ (.slice (some ad112) x5_1.length co39 : Value).ownBlock ∧ some k_ ≠ (.slice Ao40 x8_3.length co40 : Value).ownBlock ∧ k_ ≠ gb101)) (okp := (fun k_ => (w.heap.size ≤ k_) ∧ some k_ ≠ (.slice (some ad112) x5_1.length co39 : Value).ownBlock ∧ some k_ ≠ (.slice Ao40 x8_3.length co40 : Value).ownBlock ∧ k_ ≠ gb101)) ?hr ?hp (fun _ hk => hk) ((show ∀ k_, wr.heap.size ≤ k_ → (fun k_ => (w.heap.size ≤ k_) ∧ some k_ ≠ (.slice (some ad112) x5_1.length co39 : Value).ownBlock ∧ some k_ ≠ (.slice Ao40 x8_3.length co40 : Value).ownBlock ∧ k_ ≠ gb101) k_ from fun k_ hk => ⟨(Nat.le_trans (below_size (bel HB)) hk), Kd.fresh' (Kd.N_lt (by (with_reducible repeat (first | apply Kd.N_alloc | apply Kd.N_drewN | apply Kd.N_drew)); (first | exact HO_5.out | exact R_any HO_5.out))) k_ hk, Kd.fresh' (Kd.R_lt (rch HO_8)) k_ hk, Kd.freshB (g := gb101) (o := .cells #[.int .i64 a0_0, .int .i64 a0_1, .slice (some ad102) l0_2.length c0_2] 37 (0, 0)) blc k_ hk⟩) _ (Nat.le_refl _)) (Below.refl _ _) (Nat.le_refl _) (by simp) ?_; (case hd => rfl); (case hg => rfl); (case hr => first | (go_simp; done) | (go_simp; rfl)); (case hp => exact (Reps.none _ _)); intro v116 w41 ho42 hb hg_ hnew_; clear hg_ hnew_; (first | rw [← Ny115.out] at ho42 | (simp only [Int.reduceToNat] at ho42; rw [← Ny115.out] at ho42)); have n0_ := Aside0.mk (Kd.N_elder' (by (with_reducible repeat (first | apply Kd.N_alloc | apply Kd.N_drewN | apply Kd.N_drew)); (first | exact HO_5.out | exact R_any HO_5.out)) (Kd.N_base ho42) hb); have n1_ := Aside0.mk (Kd.R_below (rch HO_8) hb); have n2_ := Aside0.mk (Kd.V_elder' (by (with_reducible repeat (first | apply Kd.V_alloc | apply Kd.V_drewN | apply Kd.V_drew)); exact HL112_0.out) (Kd.N_base ho42) hb); have n3_ := Aside0.mk (Kd.N_lower ho42 (below_size (bel HB))); have n4_ := Aside0.mk (blk_below (g := gb101) (o := .cells #[.int .i64 a0_0, .int .i64 a0_1, .slice (some ad102) l0_2.length c0_2] 37 (0, 0)) blc hb); have n5_ := Aside0.mk (Kd.C_below (by repeat (first | (with_reducible exact HR112_0.out) | (with_reducible refine Kd.C_alloc ?_ _) | (with_reducible refine Kd.C_drewN ?_ _) | (with_reducible refine Kd.C_drew ?_) | exact HR112_0.out)) hb); have n6_ := Aside0.mk (below_step (bel HB) hb); clear HO_5; clear HO_8; clear HL112_0; clear BK101; clear HR112_0; clear HB; have HO_5 := n0_; have HO_8 := n1_; have HL112_0 := n2_; have HO117 := n3_; have BK101 := n4_; have HR112_0 := n5_; have HB := n6_; clear n0_ n1_ n2_ n3_ n4_ n5_ n6_; clear hb ho42; have q43 : (x10_4 : Int) ≤ ((x5_1.length : Int) : Int) := of_decide_eq_true (by first | (with_reducible assumption) | assumption); obtain ⟨i043, hi043, _, hsz43, _⟩ := info_parts info46; have hroom43 : x5_1.length ≤ co39 := (Kd.N_reads' HO_5.out).2.1; have hC43 : Kd.F (Kd.slice 3 (Kd.int .i64)) _ _ (some ad112) x5_1.length x5_1 := (Kd.V_at (base := w.heap.size) (Kd.N_V HO_5.out)).2.2; have hcut43 := cut_to (P := Tryd.prog) 22 46 .i64 Tryd.underlying22 hi043 (some ad112) x5_1.length co39 x10_4 (of_decide_eq_true (by first | (with_reducible assumption) | assumption)) q43 hroom43; have hr43 := Kd.F_take (m := (x10_4 : Int).toNat) hC43 (by omega); have hy43 : y118.length = (x10_4 : Int).toNat := (by rw [Ny118.out, List.length_take]; omega); rw [← Ny118.out] at hr43; rw [← hy43] at hcut43; have HO122 := Aside0.mk (show Kd.V (Kd.slice 3 (Kd.int .i64)) 46 _ w.heap.size _ (.slice (some ad112) y118.length co39) y118 from Kd.V_mk (by omega) hr43); have HC122 := Aside0.mk (show y118.length ≤ co39 from by omega); clear hr43 hC43 hroom43 hi043 hsz43; have KY43 := Aside0.mk hy43; clear hy43; replace q43 := eq_true q43) | ((with_reducible refine gate_builtin (b := .append) (xs := #[.tmp 65, .tmp 68]) rfl ?_); at_builtin; refine Kd.N_append_rows (Kd.slice 3 (Kd.int .i64)) (w0 := w) w.heap.size rfl (.tmp 65) (.tmp 68) 22 46 (.slice none 0 0) 24 rfl Tryd.underlying22 info46 rfl (by decide) (by omega) v116 y115 y118 _ _ _ (fun k_ => (w.heap.size ≤ k_) ∧ some k_ ≠ (.slice Ao40 x8_3.length co40 : Value).ownBlock ∧ k_ ≠ gb101) (fun k_ => ((fun k_ => (w.heap.size ≤ k_) ∧ some k_ ≠ (.slice Ao40 x8_3.length co40 : Value).ownBlock ∧ k_ ≠ gb101)) k_ ∧ some k_ ≠ (v116 : Value).ownBlock) rfl rfl ?aO ?aR (fun _ hk => hk) ?aF ?aB ?aS ?aL ?_; (case aR => exact (by skip; exact Kd.V_F (Kd.V_mono (ok' := (fun k_ => ((fun k_ => (w.heap.size ≤ k_) ∧ some k_ ≠ (.slice Ao40 x8_3.length co40 : Value).ownBlock ∧ k_ ≠ gb101)) k_ ∧ some k_ ≠ (v116 : Value).ownBlock)) (HO122.out) (fun k_ hk => ⟨⟨hk.1.1, ⟨hk.1.2.1, hk.1.2.2⟩⟩, hk.2⟩)))); (case aB => exact (bel HB)); (case aF => exact (fun k_ hk => ⟨(Nat.le_trans (below_size (bel HB)) hk), Kd.fresh' (Kd.R_lt (rch HO_8)) k_ hk, Kd.freshB (g := gb101) (o := .cells #[.int .i64 a0_0, .int .i64 a0_1, .slice (some ad102) l0_2.length c0_2] 37 (0, 0)) blc k_ hk⟩)); (case aO => exact (by (with_reducible repeat (first | apply Kd.N_alloc | apply Kd.N_drewN | apply Kd.N_drew)); exact Kd.N_mono HO117.out (fun _ hk => ⟨hk.1, ⟨hk.2.2.1, hk.2.2.2⟩⟩))); (case aS => exact (below_size (bel HB))); (case aL => have := LMc34.out; omega); intro v124 w44 ho hb hg hat; rw [← Ny123.out] at ho; have n0_ := Aside0.mk (Kd.N_afterv (ok := (fun k_ => (w.heap.size ≤ k_) ∧ some k_ ≠ (.slice Ao40 x8_3.length co40 : Value).ownBlock ∧ k_ ≠ gb101)) (by (with_reducible repeat (first | apply Kd.N_alloc | apply Kd.N_drewN | apply Kd.N_drew)); (first | exact HO_5.out | exact R_any HO_5.out)) hg hat); have n1_ := Aside0.mk (Kd.R_over' (rch HO_8) (Kd.N_typed (by (with_reducible repeat (first | apply Kd.N_alloc | apply Kd.N_drewN | apply Kd.N_drew)); (first | exact HO117.out | exact R_any HO117.out))) (by decide) hg); have n2_ := Aside0.mk (blk_grown (g := gb101) (o := .cells #[.int .i64 a0_0, .int .i64 a0_1, .slice (some ad102) l0_2.length c0_2] 37 (0, 0)) blc hg (Kd.N_ne HO117.out BK101.out (by decide))); have n3_ := Aside0.mk (Kd.V_afterv (ok := (fun k_ => (w.heap.size ≤ k_) ∧ some k_ ≠ (.slice (some ad112) x5_1.length co39 : Value).ownBlock ∧ some k_ ≠ (.slice Ao40 x8_3.length co40 : Value).ownBlock ∧ k_ ≠ gb101)) (by (with_reducible repeat (first | apply Kd.V_alloc | apply Kd.V_drewN | apply Kd.V_drew)); exact Kd.V_mono HL112_0.out (fun _ hk => ⟨⟨hk.1.1.1, ⟨hk.1.2, ⟨hk.1.1.2.1, hk.1.1.2.2⟩⟩⟩, hk.2⟩)) hg hat); have n4_ := Aside0.mk (Kd.V_afterv (ok := (fun k_ => (w.heap.size ≤ k_) ∧ some k_ ≠ (.slice Ao40 x8_3.length co40 : Value).ownBlock ∧ k_ ≠ gb101)) (by (with_reducible repeat (first | apply Kd.V_alloc | apply Kd.V_drewN | apply Kd.V_drew)); (first | exact HO122.out | exact R_any HO122.out)) hg hat); have n5_ := Aside0.mk (hb); have n6_ := Aside0.mk (ho); clear HO_5; clear HO_8; clear BK101; clear HL112_0; clear HO122; clear HB; clear HO117; have HO_5 := n0_; have HO_8 := n1_; have BK101 := n2_; have HL112_0 := n3_; have HO122 := n4_; have HB := n5_; have HO125 := n6_; clear n0_ n1_ n2_ n3_ n4_ n5_ n6_; clear ho hb hg hat) | ((with_reducible refine gate_builtin (b := .append) (xs := #[.tmp 69, .tmp 71]) rfl ?_); at_builtin; refine Kd.N_append (Kd.slice 3 (Kd.int .i64)) (w0 := w) w.heap.size rfl (.tmp 69) (.tmp 71) 22 46 (.slice none 0 0) 24 rfl Tryd.underlying22 info46 rfl (by decide) (by omega) v124 y123 x8_3 [.slice Ao40 x8_3.length co40] (fun k_ => (w.heap.size ≤ k_) ∧ k_ ≠ gb101) (fun k_ => ((fun k_ => (w.heap.size ≤ k_) ∧ k_ ≠ gb101)) k_ ∧ some k_ ≠ (v124 : Value).ownBlock) rfl rfl ?aP (fun _ hk => hk) ?aF ?aO ?aB ?aS ?aL ?_; (case aP => exact (Kd.FK_slice_mk (Kd.R_reads' (Kd.R_mono (ok' := (fun k_ => ((fun k_ => (w.heap.size ≤ k_) ∧ k_ ≠ gb101)) k_ ∧ some k_ ≠ (v124 : Value).ownBlock)) (Kd.R_types (Kd.R_apart' (HO_8.out) (Kd.N_typed HO125.out) (by decide)) BK101.out (by decide)) (fun k_ hk => ⟨⟨hk.1.1, hk.2⟩, hk.1.2⟩))).2.1 (Kd.R_F (Kd.R_mono (ok' := (fun k_ => ((fun k_ => (w.heap.size ≤ k_) ∧ k_ ≠ gb101)) k_ ∧ some k_ ≠ (v124 : Value).ownBlock)) (Kd.R_types (Kd.R_apart' (HO_8.out) (Kd.N_typed HO125.out) (by decide)) BK101.out (by decide)) (fun k_ hk => ⟨⟨hk.1.1, hk.2⟩, hk.1.2⟩))))); (case aB => exact (bel HB)); (case aF => exact (fun k_ hk => ⟨(Nat.le_trans (below_size (bel HB)) hk), Kd.freshB (g := gb101) (o := .cells #[.int .i64 a0_0, .int .i64 a0_1, .slice (some ad102) l0_2.length c0_2] 37 (0, 0)) blc k_ hk⟩)); (case aO => exact (by (with_reducible repeat (first | apply Kd.N_alloc | apply Kd.N_drewN | apply Kd.N_drew)); exact Kd.N_mono HO125.out (fun _ hk => ⟨hk.1, hk.2.2⟩))); (case aS => exact (below_size (bel HB))); (case aL => have := LMc35.out; omega); intro v127 w45 ho hb hg hat; rw [← Ny126.out] at ho; have n0_ := Aside0.mk (Kd.N_afterv (ok := (fun k_ => (w.heap.size ≤ k_) ∧ some k_ ≠ (.slice Ao40 x8_3.length co40 : Value).ownBlock ∧ k_ ≠ gb101)) (by (with_reducible repeat (first | apply Kd.N_alloc | apply Kd.N_drewN | apply Kd.N_drew)); (first | exact HO_5.out | exact R_any HO_5.out)) hg hat); have n1_ := Aside0.mk (blk_grown (g := gb101) (o := .cells #[.int .i64 a0_0, .int .i64 a0_1, .slice (some ad102) l0_2.length c0_2] 37 (0, 0)) blc hg (Kd.N_ne HO125.out BK101.out (by decide))); have n2_ := Aside0.mk (Kd.V_afterv (ok := (fun k_ => (w.heap.size ≤ k_) ∧ some k_ ≠ (.slice (some ad112) x5_1.length co39 : Value).ownBlock ∧ some k_ ≠ (.slice Ao40 x8_3.length co40 : Value).ownBlock ∧ k_ ≠ gb101)) (by (with_reducible repeat (first | apply Kd.V_alloc | apply Kd.V_drewN | apply Kd.V_drew)); exact HL112_0.out) hg hat); have n3_ := Aside0.mk (Kd.V_afterv (ok := (fun k_ => (w.heap.size ≤ k_) ∧ some k_ ≠ (.slice Ao40 x8_3.length co40 : Value).ownBlock ∧ k_ ≠ gb101)) (by (with_reducible repeat (first | apply Kd.V_alloc | apply Kd.V_drewN | apply Kd.V_drew)); (first | exact HO122.out | exact R_any HO122.out)) hg hat); have n4_ := Aside0.mk (hb); have n5_ := Aside0.mk (ho); clear HO_5; clear BK101; clear HL112_0; clear HO122; clear HB; clear HO125; clear HO_8; have HO_5 := n0_; have BK101 := n1_; have HL112_0 := n2_; have HO122 := n3_; have HB := n4_; have HO128 := n5_; clear n0_ n1_ n2_ n3_ n4_ n5_; clear ho hb hg hat; have q46 : (x10_4 : Int) ≤ ((x5_1.length : Int) : Int) := of_decide_eq_true (by first | (with_reducible assumption) | assumption); obtain ⟨i046, hi046, _, hsz46, _⟩ := info_parts info46; have hroom46 : x5_1.length ≤ co39 := (Kd.N_reads' HO_5.out).2.1; have hC46 : Kd.F (Kd.slice 3 (Kd.int .i64)) _ _ (some ad112) x5_1.length x5_1 := (Kd.V_at (base := w.heap.size) (Kd.N_V HO_5.out)).2.2; have q046 : (0 : Int) ≤ (x10_4 : Int) := of_decide_eq_true (by first | (with_reducible assumption) | assumption); have hcut46 := cut_from (P := Tryd.prog) 22 46 .i64 Tryd.underlying22 hi046 1 hsz46 (some ad112) x5_1.length co39 x10_4 q046 q46; have hr46 := Kd.F_cut (m := (x10_4 : Int).toNat) (c := co39) hC46 (by omega) hroom46; obtain ⟨A46, hA46⟩ : ∃ A1, A1 = (if co39 = (x10_4 : Int).toNat then (some ad112) else ((some ad112) : Option Addr).map (·.add ((x10_4 : Int).toNat * 1))) := ⟨_, rfl⟩; obtain ⟨c46, hc46⟩ : ∃ c1, c1 = co39 - (x10_4 : Int).toNat := ⟨_, rfl⟩; have hy46 : y129.length = x5_1.length - (x10_4 : Int).toNat := (by rw [Ny129.out, List.length_drop] <;> omega); rw [show (x5_1).drop (x10_4 : Int).toNat = y129 from Ny129.out.symm] at hr46; replace hr46 : Kd.F (Kd.slice 3 (Kd.int .i64)) _ _ A46 y129.length y129 := (by rw [hA46]; exact hr46); rw [← hy46, ← hA46, ← hc46] at hcut46; have HO133 := Aside0.mk (show Kd.V (Kd.slice 3 (Kd.int .i64)) 46 _ w.heap.size _ (.slice A46 y129.length c46) y129 from Kd.V_mk (by rw [hy46, hc46]; exact Nat.sub_le_sub_right hroom46 _) hr46); have HC133 := Aside0.mk (show y129.length ≤ c46 from by rw [hy46, hc46]; exact Nat.sub_le_sub_right hroom46 _); clear hr46 hC46 hroom46 hi046 hsz46 hc46; have KY46 := Aside0.mk hy46; have KA46 := Aside0.mk hA46; clear hy46 hA46; replace q46 := eq_true q46) | ((with_reducible refine gate_builtin (b := .append) (xs := #[.tmp 73, .tmp 76]) rfl ?_); at_builtin; refine Kd.N_append_rows (Kd.slice 3 (Kd.int .i64)) (w0 := w) w.heap.size rfl (.tmp 73) (.tmp 76) 22 46 (.slice none 0 0) 24 rfl Tryd.underlying22 info46 rfl (by decide) (by omega) v127 y126 y129 _ _ _ (fun k_ => (w.heap.size ≤ k_) ∧ k_ ≠ gb101) (fun k_ => ((fun k_ => (w.heap.size ≤ k_) ∧ k_ ≠ gb101)) k_ ∧ some k_ ≠ (v127 : Value).ownBlock) rfl rfl ?aO ?aR (fun _ hk => hk) ?aF ?aB ?aS ?aL ?_; (case aR => exact (by skip; exact Kd.V_F (Kd.V_mono (ok' := (fun k_ => ((fun k_ => (w.heap.size ≤ k_) ∧ k_ ≠ gb101)) k_ ∧ some k_ ≠ (v127 : Value).ownBlock)) (HO133.out) (fun k_ hk => ⟨⟨hk.1.1, hk.1.2.2⟩, hk.2⟩)))); (case aB => exact (bel HB)); (case aF => exact (fun k_ hk => ⟨(Nat.le_trans (below_size (bel HB)) hk), Kd.freshB (g := gb101) (o := .cells #[.int .i64 a0_0, .int .i64 a0_1, .slice (some ad102) l0_2.length c0_2] 37 (0, 0)) blc k_ hk⟩)); (case aO => exact (by (with_reducible repeat (first | apply Kd.N_alloc | apply Kd.N_drewN | apply Kd.N_drew)); (first | exact HO128.out | exact R_any HO128.out))); (case aS => exact (below_size (bel HB))); (case aL => have := LMc38.out; omega); intro v135 w47 ho hb hg hat; rw [← Ny134.out] at ho; have n0_ := Aside0.mk (Kd.N_afterv (ok := (fun k_ => (w.heap.size ≤ k_) ∧ k_ ≠ gb101)) (by (with_reducible repeat (first | apply Kd.N_alloc | apply Kd.N_drewN | apply Kd.N_drew)); exact Kd.N_mono HO_5.out (fun _ hk => ⟨⟨hk.1.1, hk.1.2.2⟩, hk.2⟩)) hg hat); have n1_ := Aside0.mk (blk_grown (g := gb101) (o := .cells #[.int .i64 a0_0, .int .i64 a0_1, .slice (some ad102) l0_2.length c0_2] 37 (0, 0)) blc hg (Kd.N_ne HO128.out BK101.out (by decide))); have n2_ := Aside0.mk (Kd.V_afterv (ok := (fun k_ => (w.heap.size ≤ k_) ∧ some k_ ≠ (.slice (some ad112) x5_1.length co39 : Value).ownBlock ∧ k_ ≠ gb101)) (by (with_reducible repeat (first | apply Kd.V_alloc | apply Kd.V_drewN | apply Kd.V_drew)); exact Kd.V_mono HL112_0.out (fun _ hk => ⟨⟨hk.1.1, ⟨hk.1.2.1, hk.1.2.2.2⟩⟩, hk.2⟩)) hg hat); have n3_ := Aside0.mk (Kd.V_afterv (ok := (fun k_ => (w.heap.size ≤ k_) ∧ k_ ≠ gb101)) (by (with_reducible repeat (first | apply Kd.V_alloc | apply Kd.V_drewN | apply Kd.V_drew)); exact Kd.V_mono HO122.out (fun _ hk => ⟨⟨hk.1.1, hk.1.2.2⟩, hk.2⟩)) hg hat); have n4_ := Aside0.mk (Kd.V_afterv (ok := (fun k_ => (w.heap.size ≤ k_) ∧ k_ ≠ gb101)) (by (with_reducible repeat (first | apply Kd.V_alloc | apply Kd.V_drewN | apply Kd.V_drew)); exact Kd.V_mono HO133.out (fun _ hk => ⟨⟨hk.1.1, hk.1.2.2⟩, hk.2⟩)) hg hat); have n5_ := Aside0.mk (hb); have n6_ := Aside0.mk (ho); clear HO_5; clear BK101; clear HL112_0; clear HO122; clear HO133; clear HB; clear HO128; have HO_5 := n0_; have BK101 := n1_; have HL112_0 := n2_; have HO122 := n3_; have HO133 := n4_; have HB := n5_; have HO136 := n6_; clear n0_ n1_ n2_ n3_ n4_ n5_ n6_; clear ho hb hg hat))
                     go_roundg k4
                     case measure => have := HK1.out; have := HJ7.out; have := HK3.out; have := HK4.out; omega
                     case rel => exact ⟨(y134), (wrap64 (x15_1 + 1)), (by first | rfl | (simp; done) | (simp [*]; done)), H', ⟨by have := HK1.out; have := HJ7.out; have := HK3.out; have := HK4.out; omega⟩, ⟨by (with_reducible repeat (first | apply Kd.N_alloc | apply Kd.N_drewN | apply Kd.N_drew)); (first | exact HO136.out | exact R_any HO136.out)⟩, ⟨blc⟩, ⟨bel HB⟩⟩
                    ·rw [if_neg c38] at H
                     exact absurd H (by simp)
                   ·rw [if_neg c35] at H
                    exact absurd H (by simp)
                  ·rw [if_neg c34] at H
                   exact absurd H (by simp)
                 ·rw [if_neg c33] at H
                  exact absurd H (by simp)
               ·rw [if_neg c26] at H
                exact absurd H (by simp)
              ·rw [if_neg c25] at H
               have c25b0 : decide (x10_4 < (x5_1.length : Int)) = false := decide_eq_false c25
               clear c25
               obtain ⟨y137, hy137⟩ : ∃ y_ : List (List Int), y_ = (([] : List (List Int))) := ⟨_, rfl⟩
               replace H : (if 0 ≤ x10_4 then (if x10_4 ≤ (x5_1.length : Int) then ((some (x5_1.take (x10_4 : Int).toNat : List (List Int))).bind fun y140 => (if y137.length + y140.length < 5864062014805 then ((some (y137 ++ y140 : List (List Int))).bind fun y145 => (if y145.length < 5864062014805 then ((some (y145 ++ [x8_3] : List (List Int))).bind fun y148 => ((some (x5_1.drop (x10_4 : Int).toNat : List (List Int))).bind fun y151 => (if y148.length + y151.length < 5864062014805 then (spec_tiStretches.l0 k4 a1 (y148 ++ y151) l0_2 (l0_2.length : Int) (wrap64 (x15_1 + 1)) a0_0 a0_1 l0_2) else (none)))) else (none))) else (none))) else (none)) else (none)) = some r := rH hy137 H
               have Ny137 := Aside0.mk hy137
               clear hy137
               by_cases c48 : 0 ≤ x10_4
               ·rw [if_pos c48] at H
                have c48b0 := eq_true c48
                have c48b1 : decide (0 ≤ x10_4) = true := decide_eq_true c48
                clear c48
                by_cases c49 : x10_4 ≤ (x5_1.length : Int)
                ·rw [if_pos c49] at H
                 have c49b0 := eq_true c49
                 have c49b1 : decide (x10_4 ≤ (x5_1.length : Int)) = true := decide_eq_true c49
                 clear c49
                 obtain ⟨y140, hy140⟩ : ∃ y_ : List (List Int), y_ = (x5_1.take (x10_4 : Int).toNat) := ⟨_, rfl⟩
                 replace H : (if y137.length + y140.length < 5864062014805 then ((some (y137 ++ y140 : List (List Int))).bind fun y145 => (if y145.length < 5864062014805 then ((some (y145 ++ [x8_3] : List (List Int))).bind fun y148 => ((some (x5_1.drop (x10_4 : Int).toNat : List (List Int))).bind fun y151 => (if y148.length + y151.length < 5864062014805 then (spec_tiStretches.l0 k4 a1 (y148 ++ y151) l0_2 (l0_2.length : Int) (wrap64 (x15_1 + 1)) a0_0 a0_1 l0_2) else (none)))) else (none))) else (none)) = some r := rH hy140 H
                 have Ny140 := Aside0.mk hy140
                 clear hy140
                 by_cases c50 : y137.length + y140.length < 5864062014805
                 ·rw [if_pos c50] at H
                  have LMc50 := Aside0.mk c50
                  clear c50
                  obtain ⟨y145, hy145⟩ : ∃ y_ : List (List Int), y_ = (y137 ++ y140) := ⟨_, rfl⟩
                  replace H : (if y145.length < 5864062014805 then ((some (y145 ++ [x8_3] : List (List Int))).bind fun y148 => ((some (x5_1.drop (x10_4 : Int).toNat : List (List Int))).bind fun y151 => (if y148.length + y151.length < 5864062014805 then (spec_tiStretches.l0 k4 a1 (y148 ++ y151) l0_2 (l0_2.length : Int) (wrap64 (x15_1 + 1)) a0_0 a0_1 l0_2) else (none)))) else (none)) = some r := rH hy145 H
                  have Ny145 := Aside0.mk hy145
                  clear hy145
                  by_cases c51 : y145.length < 5864062014805
                  ·rw [if_pos c51] at H
                   have LMc51 := Aside0.mk c51
                   clear c51
                   obtain ⟨y148, hy148⟩ : ∃ y_ : List (List Int), y_ = (y145 ++ [x8_3]) := ⟨_, rfl⟩
                   replace H : ((some (x5_1.drop (x10_4 : Int).toNat : List (List Int))).bind fun y151 => (if y148.length + y151.length < 5864062014805 then (spec_tiStretches.l0 k4 a1 (y148 ++ y151) l0_2 (l0_2.length : Int) (wrap64 (x15_1 + 1)) a0_0 a0_1 l0_2) else (none))) = some r := rH hy148 H
                   have Ny148 := Aside0.mk hy148
                   clear hy148
                   have c52b0 := eq_true (of_decide_eq_true (by first | (with_reducible assumption) | assumption) : 0 ≤ x10_4)
                   have c53b0 := eq_true (of_decide_eq_true (by first | (with_reducible assumption) | assumption) : x10_4 ≤ (x5_1.length : Int))
                   obtain ⟨y151, hy151⟩ : ∃ y_ : List (List Int), y_ = (x5_1.drop (x10_4 : Int).toNat) := ⟨_, rfl⟩
                   replace H : (if y148.length + y151.length < 5864062014805 then (spec_tiStretches.l0 k4 a1 (y148 ++ y151) l0_2 (l0_2.length : Int) (wrap64 (x15_1 + 1)) a0_0 a0_1 l0_2) else (none)) = some r := rH hy151 H
                   have Ny151 := Aside0.mk hy151
                   clear hy151
                   by_cases c54 : y148.length + y151.length < 5864062014805
                   ·rw [if_pos c54] at H
                    have LMc54 := Aside0.mk c54
                    clear c54
                    obtain ⟨y156, hy156⟩ : ∃ y_ : List (List Int), y_ = (y148 ++ y151) := ⟨_, rfl⟩
                    replace H : (spec_tiStretches.l0 k4 a1 y156 l0_2 (l0_2.length : Int) (wrap64 (x15_1 + 1)) a0_0 a0_1 l0_2) = some r := rH hy156 H
                    have Ny156 := Aside0.mk hy156
                    clear hy156
                    have H' := Aside0.mk H
                    clear H
                    obtain ⟨Ao55, co55, eo55⟩ := Kd.N_slice HO_5.out
                    subst eo55
                    go_wp2_with (first | ((with_reducible refine gate_dst (N := 65) rfl ?_); refine Kd.N_lit (Kd.slice 3 (Kd.int .i64)) _ 46 ?hg (N' := 65) ?hd (xs := ([] : List (List Int))) (inner := []) (ok := (fun k_ => (w.heap.size ≤ k_) ∧ some k_ ≠ (.slice Ao55 x5_1.length co55 : Value).ownBlock ∧ some k_ ≠ (u8 : Value).ownBlock ∧ k_ ≠ gb101)) (okp := (fun k_ => (w.heap.size ≤ k_) ∧ some k_ ≠ (.slice Ao55 x5_1.length co55 : Value).ownBlock ∧ some k_ ≠ (u8 : Value).ownBlock ∧ k_ ≠ gb101)) ?hr ?hp (fun _ hk => hk) ((show ∀ k_, wr.heap.size ≤ k_ → (fun k_ => (w.heap.size ≤ k_) ∧ some k_ ≠ (.slice Ao55 x5_1.length co55 : Value).ownBlock ∧ some k_ ≠ (u8 : Value).ownBlock ∧ k_ ≠ gb101) k_ from fun k_ hk => ⟨(Nat.le_trans (below_size (bel HB)) hk), Kd.fresh' (Kd.N_lt (by (with_reducible repeat (first | apply Kd.N_alloc | apply Kd.N_drewN | apply Kd.N_drew)); (first | exact HO_5.out | exact R_any HO_5.out))) k_ hk, Kd.fresh' (Kd.R_lt (rch HO_8)) k_ hk, Kd.freshB (g := gb101) (o := .cells #[.int .i64 a0_0, .int .i64 a0_1, .slice (some ad102) l0_2.length c0_2] 37 (0, 0)) blc k_ hk⟩) _ (Nat.le_refl _)) (Below.refl _ _) (Nat.le_refl _) (by simp) ?_; (case hd => rfl); (case hg => rfl); (case hr => first | (go_simp; done) | (go_simp; rfl)); (case hp => exact (Reps.none _ _)); intro v138 w56 ho57 hb hg_ hnew_; clear hg_ hnew_; (first | rw [← Ny137.out] at ho57 | (simp only [Int.reduceToNat] at ho57; rw [← Ny137.out] at ho57)); have n0_ := Aside0.mk (Kd.N_elder' (by (with_reducible repeat (first | apply Kd.N_alloc | apply Kd.N_drewN | apply Kd.N_drew)); (first | exact HO_5.out | exact R_any HO_5.out)) (Kd.N_base ho57) hb); have n1_ := Aside0.mk (Kd.R_below (rch HO_8) hb); have n2_ := Aside0.mk (Kd.N_lower ho57 (below_size (bel HB))); have n3_ := Aside0.mk (blk_below (g := gb101) (o := .cells #[.int .i64 a0_0, .int .i64 a0_1, .slice (some ad102) l0_2.length c0_2] 37 (0, 0)) blc hb); have n4_ := Aside0.mk (below_step (bel HB) hb); clear HO_5; clear HO_8; clear BK101; clear HB; have HO_5 := n0_; have HO_8 := n1_; have HO139 := n2_; have BK101 := n3_; have HB := n4_; clear n0_ n1_ n2_ n3_ n4_; clear hb ho57; have q58 : (x10_4 : Int) ≤ ((x5_1.length : Int) : Int) := of_decide_eq_true (by first | (with_reducible assumption) | assumption); obtain ⟨i058, hi058, _, hsz58, _⟩ := info_parts info46; have hroom58 : x5_1.length ≤ co55 := (Kd.N_reads' HO_5.out).2.1; have hC58 : Kd.F (Kd.slice 3 (Kd.int .i64)) _ _ Ao55 x5_1.length x5_1 := (Kd.V_at (base := w.heap.size) (Kd.N_V HO_5.out)).2.2; have hcut58 := cut_to (P := Tryd.prog) 22 46 .i64 Tryd.underlying22 hi058 Ao55 x5_1.length co55 x10_4 (of_decide_eq_true (by first | (with_reducible assumption) | assumption)) q58 hroom58; have hr58 := Kd.F_take (m := (x10_4 : Int).toNat) hC58 (by omega); have hy58 : y140.length = (x10_4 : Int).toNat := (by rw [Ny140.out, List.length_take]; omega); rw [← Ny140.out] at hr58; rw [← hy58] at hcut58; have HO144 := Aside0.mk (show Kd.V (Kd.slice 3 (Kd.int .i64)) 46 _ w.heap.size _ (.slice Ao55 y140.length co55) y140 from Kd.V_mk (by omega) hr58); have HC144 := Aside0.mk (show y140.length ≤ co55 from by omega); clear hr58 hC58 hroom58 hi058 hsz58; have KY58 := Aside0.mk hy58; clear hy58; replace q58 := eq_true q58) | ((with_reducible refine gate_builtin (b := .append) (xs := #[.tmp 65, .tmp 68]) rfl ?_); at_builtin; refine Kd.N_append_rows (Kd.slice 3 (Kd.int .i64)) (w0 := w) w.heap.size rfl (.tmp 65) (.tmp 68) 22 46 (.slice none 0 0) 24 rfl Tryd.underlying22 info46 rfl (by decide) (by omega) v138 y137 y140 _ _ _ (fun k_ => (w.heap.size ≤ k_) ∧ some k_ ≠ (u8 : Value).ownBlock ∧ k_ ≠ gb101) (fun k_ => ((fun k_ => (w.heap.size ≤ k_) ∧ some k_ ≠ (u8 : Value).ownBlock ∧ k_ ≠ gb101)) k_ ∧ some k_ ≠ (v138 : Value).ownBlock) rfl rfl ?aO ?aR (fun _ hk => hk) ?aF ?aB ?aS ?aL ?_; (case aR => exact (by skip; exact Kd.V_F (Kd.V_mono (ok' := (fun k_ => ((fun k_ => (w.heap.size ≤ k_) ∧ some k_ ≠ (u8 : Value).ownBlock ∧ k_ ≠ gb101)) k_ ∧ some k_ ≠ (v138 : Value).ownBlock)) (HO144.out) (fun k_ hk => ⟨⟨hk.1.1, ⟨hk.1.2.1, hk.1.2.2⟩⟩, hk.2⟩)))); (case aB => exact (bel HB)); (case aF => exact (fun k_ hk => ⟨(Nat.le_trans (below_size (bel HB)) hk), Kd.fresh' (Kd.R_lt (rch HO_8)) k_ hk, Kd.freshB (g := gb101) (o := .cells #[.int .i64 a0_0, .int .i64 a0_1, .slice (some ad102) l0_2.length c0_2] 37 (0, 0)) blc k_ hk⟩)); (case aO => exact (by (with_reducible repeat (first | apply Kd.N_alloc | apply Kd.N_drewN | apply Kd.N_drew)); exact Kd.N_mono HO139.out (fun _ hk => ⟨hk.1, ⟨hk.2.2.1, hk.2.2.2⟩⟩))); (case aS => exact (below_size (bel HB))); (case aL => have := LMc50.out; omega); intro v146 w59 ho hb hg hat; rw [← Ny145.out] at ho; have n0_ := Aside0.mk (Kd.N_afterv (ok := (fun k_ => (w.heap.size ≤ k_) ∧ some k_ ≠ (u8 : Value).ownBlock ∧ k_ ≠ gb101)) (by (with_reducible repeat (first | apply Kd.N_alloc | apply Kd.N_drewN | apply Kd.N_drew)); (first | exact HO_5.out | exact R_any HO_5.out)) hg hat); have n1_ := Aside0.mk (Kd.R_over' (rch HO_8) (Kd.N_typed (by (with_reducible repeat (first | apply Kd.N_alloc | apply Kd.N_drewN | apply Kd.N_drew)); (first | exact HO139.out | exact R_any HO139.out))) (by decide) hg); have n2_ := Aside0.mk (blk_grown (g := gb101) (o := .cells #[.int .i64 a0_0, .int .i64 a0_1, .slice (some ad102) l0_2.length c0_2] 37 (0, 0)) blc hg (Kd.N_ne HO139.out BK101.out (by decide))); have n3_ := Aside0.mk (Kd.V_afterv (ok := (fun k_ => (w.heap.size ≤ k_) ∧ some k_ ≠ (u8 : Value).ownBlock ∧ k_ ≠ gb101)) (by (with_reducible repeat (first | apply Kd.V_alloc | apply Kd.V_drewN | apply Kd.V_drew)); (first | exact HO144.out | exact R_any HO144.out)) hg hat); have n4_ := Aside0.mk (hb); have n5_ := Aside0.mk (ho); clear HO_5; clear HO_8; clear BK101; clear HO144; clear HB; clear HO139; have HO_5 := n0_; have HO_8 := n1_; have BK101 := n2_; have HO144 := n3_; have HB := n4_; have HO147 := n5_; clear n0_ n1_ n2_ n3_ n4_ n5_; clear ho hb hg hat; obtain ⟨Ao61, co61, eo61⟩ := Kd.R_slice HO_8.out; subst eo61) | ((with_reducible refine gate_builtin (b := .append) (xs := #[.tmp 69, .tmp 71]) rfl ?_); at_builtin; refine Kd.N_append (Kd.slice 3 (Kd.int .i64)) (w0 := w) w.heap.size rfl (.tmp 69) (.tmp 71) 22 46 (.slice none 0 0) 24 rfl Tryd.underlying22 info46 rfl (by decide) (by omega) v146 y145 x8_3 [.slice Ao61 x8_3.length co61] (fun k_ => (w.heap.size ≤ k_) ∧ k_ ≠ gb101) (fun k_ => ((fun k_ => (w.heap.size ≤ k_) ∧ k_ ≠ gb101)) k_ ∧ some k_ ≠ (v146 : Value).ownBlock) rfl rfl ?aP (fun _ hk => hk) ?aF ?aO ?aB ?aS ?aL ?_; (case aP => exact (Kd.FK_slice_mk (Kd.R_reads' (Kd.R_mono (ok' := (fun k_ => ((fun k_ => (w.heap.size ≤ k_) ∧ k_ ≠ gb101)) k_ ∧ some k_ ≠ (v146 : Value).ownBlock)) (Kd.R_types (Kd.R_apart' (HO_8.out) (Kd.N_typed HO147.out) (by decide)) BK101.out (by decide)) (fun k_ hk => ⟨⟨hk.1.1, hk.2⟩, hk.1.2⟩))).2.1 (Kd.R_F (Kd.R_mono (ok' := (fun k_ => ((fun k_ => (w.heap.size ≤ k_) ∧ k_ ≠ gb101)) k_ ∧ some k_ ≠ (v146 : Value).ownBlock)) (Kd.R_types (Kd.R_apart' (HO_8.out) (Kd.N_typed HO147.out) (by decide)) BK101.out (by decide)) (fun k_ hk => ⟨⟨hk.1.1, hk.2⟩, hk.1.2⟩))))); (case aB => exact (bel HB)); (case aF => exact (fun k_ hk => ⟨(Nat.le_trans (below_size (bel HB)) hk), Kd.freshB (g := gb101) (o := .cells #[.int .i64 a0_0, .int .i64 a0_1, .slice (some ad102) l0_2.length c0_2] 37 (0, 0)) blc k_ hk⟩)); (case aO => exact (by (with_reducible repeat (first | apply Kd.N_alloc | apply Kd.N_drewN | apply Kd.N_drew)); exact Kd.N_mono HO147.out (fun _ hk => ⟨hk.1, hk.2.2⟩))); (case aS => exact (below_size (bel HB))); (case aL => have := LMc51.out; omega); intro v149 w60 ho hb hg hat; rw [← Ny148.out] at ho; have n0_ := Aside0.mk (Kd.N_afterv (ok := (fun k_ => (w.heap.size ≤ k_) ∧ some k_ ≠ (.slice Ao61 x8_3.length co61 : Value).ownBlock ∧ k_ ≠ gb101)) (by (with_reducible repeat (first | apply Kd.N_alloc | apply Kd.N_drewN | apply Kd.N_drew)); (first | exact HO_5.out | exact R_any HO_5.out)) hg hat); have n1_ := Aside0.mk (blk_grown (g := gb101) (o := .cells #[.int .i64 a0_0, .int .i64 a0_1, .slice (some ad102) l0_2.length c0_2] 37 (0, 0)) blc hg (Kd.N_ne HO147.out BK101.out (by decide))); have n2_ := Aside0.mk (Kd.V_afterv (ok := (fun k_ => (w.heap.size ≤ k_) ∧ some k_ ≠ (.slice Ao61 x8_3.length co61 : Value).ownBlock ∧ k_ ≠ gb101)) (by (with_reducible repeat (first | apply Kd.V_alloc | apply Kd.V_drewN | apply Kd.V_drew)); (first | exact HO144.out | exact R_any HO144.out)) hg hat); have n3_ := Aside0.mk (hb); have n4_ := Aside0.mk (ho); clear HO_5; clear BK101; clear HO144; clear HB; clear HO147; clear HO_8; have HO_5 := n0_; have BK101 := n1_; have HO144 := n2_; have HB := n3_; have HO150 := n4_; clear n0_ n1_ n2_ n3_ n4_; clear ho hb hg hat; have q62 : (x10_4 : Int) ≤ ((x5_1.length : Int) : Int) := of_decide_eq_true (by first | (with_reducible assumption) | assumption); obtain ⟨i062, hi062, _, hsz62, _⟩ := info_parts info46; have hroom62 : x5_1.length ≤ co55 := (Kd.N_reads' HO_5.out).2.1; have hC62 : Kd.F (Kd.slice 3 (Kd.int .i64)) _ _ Ao55 x5_1.length x5_1 := (Kd.V_at (base := w.heap.size) (Kd.N_V HO_5.out)).2.2; have q062 : (0 : Int) ≤ (x10_4 : Int) := of_decide_eq_true (by first | (with_reducible assumption) | assumption); have hcut62 := cut_from (P := Tryd.prog) 22 46 .i64 Tryd.underlying22 hi062 1 hsz62 Ao55 x5_1.length co55 x10_4 q062 q62; have hr62 := Kd.F_cut (m := (x10_4 : Int).toNat) (c := co55) hC62 (by omega) hroom62; obtain ⟨A62, hA62⟩ : ∃ A1, A1 = (if co55 = (x10_4 : Int).toNat then Ao55 else (Ao55 : Option Addr).map (·.add ((x10_4 : Int).toNat * 1))) := ⟨_, rfl⟩; obtain ⟨c62, hc62⟩ : ∃ c1, c1 = co55 - (x10_4 : Int).toNat := ⟨_, rfl⟩; have hy62 : y151.length = x5_1.length - (x10_4 : Int).toNat := (by rw [Ny151.out, List.length_drop] <;> omega); rw [show (x5_1).drop (x10_4 : Int).toNat = y151 from Ny151.out.symm] at hr62; replace hr62 : Kd.F (Kd.slice 3 (Kd.int .i64)) _ _ A62 y151.length y151 := (by rw [hA62]; exact hr62); rw [← hy62, ← hA62, ← hc62] at hcut62; have HO155 := Aside0.mk (show Kd.V (Kd.slice 3 (Kd.int .i64)) 46 _ w.heap.size _ (.slice A62 y151.length c62) y151 from Kd.V_mk (by rw [hy62, hc62]; exact Nat.sub_le_sub_right hroom62 _) hr62); have HC155 := Aside0.mk (show y151.length ≤ c62 from by rw [hy62, hc62]; exact Nat.sub_le_sub_right hroom62 _); clear hr62 hC62 hroom62 hi062 hsz62 hc62; have KY62 := Aside0.mk hy62; have KA62 := Aside0.mk hA62; clear hy62 hA62; replace q62 := eq_true q62) | ((with_reducible refine gate_builtin (b := .append) (xs := #[.tmp 73, .tmp 76]) rfl ?_); at_builtin; refine Kd.N_append_rows (Kd.slice 3 (Kd.int .i64)) (w0 := w) w.heap.size rfl (.tmp 73) (.tmp 76) 22 46 (.slice none 0 0) 24 rfl Tryd.underlying22 info46 rfl (by decide) (by omega) v149 y148 y151 _ _ _ (fun k_ => (w.heap.size ≤ k_) ∧ k_ ≠ gb101) (fun k_ => ((fun k_ => (w.heap.size ≤ k_) ∧ k_ ≠ gb101)) k_ ∧ some k_ ≠ (v149 : Value).ownBlock) rfl rfl ?aO ?aR (fun _ hk => hk) ?aF ?aB ?aS ?aL ?_; (case aR => exact (by skip; exact Kd.V_F (Kd.V_mono (ok' := (fun k_ => ((fun k_ => (w.heap.size ≤ k_) ∧ k_ ≠ gb101)) k_ ∧ some k_ ≠ (v149 : Value).ownBlock)) (HO155.out) (fun k_ hk => ⟨⟨hk.1.1, hk.1.2.2⟩, hk.2⟩)))); (case aB => exact (bel HB)); (case aF => exact (fun k_ hk => ⟨(Nat.le_trans (below_size (bel HB)) hk), Kd.freshB (g := gb101) (o := .cells #[.int .i64 a0_0, .int .i64 a0_1, .slice (some ad102) l0_2.length c0_2] 37 (0, 0)) blc k_ hk⟩)); (case aO => exact (by (with_reducible repeat (first | apply Kd.N_alloc | apply Kd.N_drewN | apply Kd.N_drew)); (first | exact HO150.out | exact R_any HO150.out))); (case aS => exact (below_size (bel HB))); (case aL => have := LMc54.out; omega); intro v157 w63 ho hb hg hat; rw [← Ny156.out] at ho; have n0_ := Aside0.mk (Kd.N_afterv (ok := (fun k_ => (w.heap.size ≤ k_) ∧ k_ ≠ gb101)) (by (with_reducible repeat (first | apply Kd.N_alloc | apply Kd.N_drewN | apply Kd.N_drew)); exact Kd.N_mono HO_5.out (fun _ hk => ⟨⟨hk.1.1, hk.1.2.2⟩, hk.2⟩)) hg hat); have n1_ := Aside0.mk (blk_grown (g := gb101) (o := .cells #[.int .i64 a0_0, .int .i64 a0_1, .slice (some ad102) l0_2.length c0_2] 37 (0, 0)) blc hg (Kd.N_ne HO150.out BK101.out (by decide))); have n2_ := Aside0.mk (Kd.V_afterv (ok := (fun k_ => (w.heap.size ≤ k_) ∧ k_ ≠ gb101)) (by (with_reducible repeat (first | apply Kd.V_alloc | apply Kd.V_drewN | apply Kd.V_drew)); exact Kd.V_mono HO144.out (fun _ hk => ⟨⟨hk.1.1, hk.1.2.2⟩, hk.2⟩)) hg hat); have n3_ := Aside0.mk (Kd.V_afterv (ok := (fun k_ => (w.heap.size ≤ k_) ∧ k_ ≠ gb101)) (by (with_reducible repeat (first | apply Kd.V_alloc | apply Kd.V_drewN | apply Kd.V_drew)); exact Kd.V_mono HO155.out (fun _ hk => ⟨⟨hk.1.1, hk.1.2.2⟩, hk.2⟩)) hg hat); have n4_ := Aside0.mk (hb); have n5_ := Aside0.mk (ho); clear HO_5; clear BK101; clear HO144; clear HO155; clear HB; clear HO150; have HO_5 := n0_; have BK101 := n1_; have HO144 := n2_; have HO155 := n3_; have HB := n4_; have HO158 := n5_; clear n0_ n1_ n2_ n3_ n4_ n5_; clear ho hb hg hat))
                    go_roundg k4
                    case measure => have := HK1.out; have := HJ7.out; have := HK3.out; have := HK4.out; omega
                    case rel => exact ⟨(y156), (wrap64 (x15_1 + 1)), (by first | rfl | (simp; done) | (simp [*]; done)), H', ⟨by have := HK1.out; have := HJ7.out; have := HK3.out; have := HK4.out; omega⟩, ⟨by (with_reducible repeat (first | apply Kd.N_alloc | apply Kd.N_drewN | apply Kd.N_drew)); (first | exact HO158.out | exact R_any HO158.out)⟩, ⟨blc⟩, ⟨bel HB⟩⟩
                   ·rw [if_neg c54] at H
                    exact absurd H (by simp)
                  ·rw [if_neg c51] at H
                   exact absurd H (by simp)
                 ·rw [if_neg c50] at H
                  exact absurd H (by simp)
                ·rw [if_neg c49] at H
                 exact absurd H (by simp)
               ·rw [if_neg c48] at H
                exact absurd H (by simp)
     ·rw [if_neg c7] at H
      exact absurd H (by simp)
    ·rw [if_neg c6] at H
     exact absurd H (by simp)
   ·rw [if_neg c5] at H
    have c5b0 : decide (x15_1 < (l0_2.length : Int)) = false := decide_eq_false c5
    clear c5
    obtain rfl := Option.some.inj H
    go_wp2
    go_ret
    exact ⟨_, by first | rfl | (simp [errW_none, errW_some] <;> rfl) | (simp [*, errW_none, errW_some] <;> rfl), by (with_reducible repeat (first | apply Kd.N_alloc | apply Kd.N_drewN | apply Kd.N_drew)); exact Kd.N_mono HO_5.out (fun _ hk => hk.1), bel HB⟩
end Go.Proofs.YtohfcmhidjaohaaDoor.Q
end
section
namespace Go.Proofs.YtohfcmhidjaohaaDoor.Q
open Go.RowKit Go.Shelf Go.Proofs.YtohfcmhidjaohaaDoorW.PrintWords Go.Proofs.YtohfcmhidjaohaaDoorW.PrintLast Go.Proofs.YtohfcmhidjaohaaDoorW.PrintMore
set_option linter.unusedSectionVars false
theorem least_eq (a b : Int) : spec_l1Least.f a b = some (min a b) := by
 unfold spec_l1Least.f
 by_cases h : a < b
 ·rw [if_pos h, show min a b = a by omega]
 ·rw [if_neg h, show min a b = b by omega]
theorem first_l0 (L : List Int) : ∀ (l : List Int) (u : Nat) (a : Int), L.drop u = l → u ≤ L.length → u + l.length ≤ 1000 → Ev (fun k => spec_tiFirst.l0 k a L (L.length : Int) (u : Int)) (l.foldl min a)
 | [], u, a, hd, hu, _ => by
  have hL : u = L.length := by
   have := congrArg List.length hd
   simp at this
   omega
  subst hL
  refine Ev.step (Ev.const rfl) fun k => ?_
  simp only [spec_tiFirst.l0]
  rw [if_neg (by omega)]
  rfl
 | x :: l, u, a, hd, _, hq => by
  obtain ⟨h1, h2, h3⟩ := rd_drop hd
  simp only [List.length_cons] at hq
  refine Ev.step (first_l0 L l (u + 1) (min a x) h3 h1 (by omega)) fun k => ?_
  simp only [spec_tiFirst.l0]
  rw [if_pos (by omega), if_pos (by omega), if_pos (by omega), h2, least_eq, Option.bind_some, wr1 u (by omega)]
theorem first_ev (s : List Int) (h : s ≠ []) (hl : s.length ≤ 1000) : Ev (fun k => spec_tiFirst.f k s) (Lib.minOf s) := by
 have h1 := List.length_pos_iff.2 h
 cases s with
 | nil => exact absurd rfl h
 | cons x l =>
  refine Ev.congr (first_l0 (x :: l) (x :: l) 0 x rfl (Nat.zero_le _) (by omega)) fun k => ?_
  unfold spec_tiFirst.f
  rw [if_pos (by omega)]
  rfl
def insM (s : List Int) : List (List Int) → List (List Int)
 | [] => [s]
 | t :: L => if Lib.minOf t < Lib.minOf s then t :: insM s L else s :: t :: L
theorem insM_perm (s : List Int) : ∀ L, (insM s L).Perm (s :: L)
 | [] => List.Perm.refl _
 | t :: L => by
  unfold insM
  split
  ·exact ((insM_perm s L).cons t).trans (List.Perm.swap s t L)
  ·exact List.Perm.refl _
theorem insM_sorted (s : List Int) : ∀ L : List (List Int), L.Pairwise (fun a b => Lib.minOf a ≤ Lib.minOf b) → (insM s L).Pairwise (fun a b => Lib.minOf a ≤ Lib.minOf b)
 | [], _ => List.pairwise_singleton _ _
 | t :: L, h => by
  obtain ⟨h1, h2⟩ := List.pairwise_cons.1 h
  unfold insM
  split
  ·rename_i hlt
   refine List.pairwise_cons.2 ⟨fun x hx => ?_, insM_sorted s L h2⟩
   rcases List.mem_cons.1 ((insM_perm s L).subset hx) with rfl | hx
   ·omega
   ·exact h1 x hx
  ·rename_i hge
   refine List.pairwise_cons.2 ⟨fun x hx => ?_, h⟩
   rcases List.mem_cons.1 hx with rfl | hx
   ·omega
   ·have := h1 x hx
    omega
theorem sort_same : ∀ A B : List (List Int), A.Perm B → A.Pairwise (fun a b => Lib.minOf a < Lib.minOf b) → B.Pairwise (fun a b => Lib.minOf a < Lib.minOf b) → A = B
 | [], B, hp, _, _ => hp.nil_eq
 | a :: A, [], hp, _, _ => by have := hp.length_eq; simp at this
 | a :: A, b :: B, hp, ha, hb => by
  obtain ⟨a1, a2⟩ := List.pairwise_cons.1 ha
  obtain ⟨b1, b2⟩ := List.pairwise_cons.1 hb
  have hab : a = b := by
   rcases List.mem_cons.1 (hp.subset List.mem_cons_self) with h | h
   ·exact h
   ·rcases List.mem_cons.1 (hp.symm.subset List.mem_cons_self) with h2 | h2
    ·exact h2.symm
    ·have := b1 a h
     have := a1 b h2
     omega
  subst hab
  rw [sort_same A B ((List.perm_cons a).1 hp) a2 b2]
theorem strict_of {L : List (List Int)} (h : L.Pairwise fun a b => Lib.minOf a ≤ Lib.minOf b) (hn : (L.map Lib.minOf).Nodup) : L.Pairwise fun a b => Lib.minOf a < Lib.minOf b := by
 have h2 : L.Pairwise fun a b => Lib.minOf a ≠ Lib.minOf b := List.pairwise_map.1 hn
 exact (h.and h2).imp fun ⟨h3, h4⟩ => by omega
theorem rdL_app (A B : List (List Int)) (t : List Int) : rd_Lii (A ++ t :: B) (A.length : Int) = t := by
 unfold rd_Lii
 rw [Int.toNat_natCast, List.getD_eq_getElem?_getD, List.getElem?_append_right (Nat.le_refl _), Nat.sub_self]
 rfl
theorem ins_l2 (d : Int) (own : List Int) (ho : own ≠ []) (hol : own.length ≤ 1000) (c : List Int) (n i w h : Int) (cs : List Int) (r : List (List Int)) : ∀ (B A : List (List Int)), (∀ t ∈ B, t ≠ [] ∧ t.length ≤ 1000) → A.length + B.length ≤ 500 →
  Ev (fun k => spec_tiStretches.l0 k d (A ++ insM own B) c n (wrap64 (i + 1)) w h cs) r → Ev (fun k => spec_tiStretches.l2 k d (A ++ B) own (A.length : Int) c n i w h cs) r
 | [], A, _, hl, hE => by
  simp only [List.length_nil] at hl
  refine Ev.step hE fun k => ?_
  simp only [spec_tiStretches.l2, Option.bind_some, List.append_nil, List.nil_append, insM]
  rw [if_neg (by omega), if_pos (by omega), if_pos (by omega), Int.toNat_natCast, List.take_length, List.drop_length, if_pos (by simp; omega), if_pos (by omega), if_pos (by simp; omega), List.append_nil]
 | t :: B, A, hb, hl, hE => by
  simp only [List.length_cons] at hl
  obtain ⟨t1, t2⟩ := hb t List.mem_cons_self
  have hlen : (A.length : Int) < ((A ++ t :: B).length : Int) := by simp; omega
  unfold insM at hE
  obtain ⟨k1, e1⟩ := first_ev t t1 t2
  obtain ⟨k2, e2⟩ := first_ev own ho hol
  by_cases hlt : Lib.minOf t < Lib.minOf own
  ·rw [if_pos hlt] at hE
   have ih := ins_l2 d own ho hol c n i w h cs r B (A ++ [t]) (fun x hx => hb x (List.mem_cons_of_mem _ hx)) (by simp; omega) (by rw [List.append_assoc]; exact hE)
   rw [List.append_assoc, List.singleton_append, List.length_append, List.length_singleton, ← wr1 A.length (by omega)] at ih
   obtain ⟨k3, e3⟩ := ih
   refine ⟨k1 + k2 + k3 + 1, fun k hk => ?_⟩
   obtain ⟨k, rfl⟩ : ∃ k', k = k' + 1 := ⟨k - 1, by omega⟩
   simp only [spec_tiStretches.l2]
   rw [if_pos hlen, if_pos (by omega), rdL_app, show spec_tiFirst.f k t = some (Lib.minOf t) from e1 k (by omega), Option.bind_some, show spec_tiFirst.f k own = some (Lib.minOf own) from e2 k (by omega), Option.bind_some, if_pos hlt]
   exact e3 k (by omega)
  ·rw [if_neg hlt] at hE
   obtain ⟨k3, e3⟩ := hE
   refine ⟨k1 + k2 + k3 + 1, fun k hk => ?_⟩
   obtain ⟨k, rfl⟩ : ∃ k', k = k' + 1 := ⟨k - 1, by omega⟩
   simp only [spec_tiStretches.l2]
   rw [if_pos hlen, if_pos (by omega), rdL_app, show spec_tiFirst.f k t = some (Lib.minOf t) from e1 k (by omega), Option.bind_some, show spec_tiFirst.f k own = some (Lib.minOf own) from e2 k (by omega), Option.bind_some, if_neg hlt]
   simp only [Option.bind_some, List.nil_append, Int.toNat_natCast, List.take_left', List.drop_left', List.take_left, List.drop_left]
   rw [if_pos (by omega), if_pos (by simp; omega), if_pos (by omega), if_pos (by simp; omega), List.append_assoc, List.singleton_append]
   exact e3 k (by omega)
def lf (w h i d : Nat) : Nat := if d = 0 then i / w else if d = 1 then w - 1 - i % w else if d = 2 then h - 1 - i / w else i % w
theorem lf_all : ∀ (w h : Fin 8) (i : Fin 36) (d : Fin 4), i.val < w.val * h.val → lf w.val h.val i.val d.val ≤ 6 ∧ (0 ≤ an w.val h.val i.val d.val → lf w.val h.val (an w.val h.val i.val d.val).toNat d.val < lf w.val h.val i.val d.val) := by decide +kernel
theorem back_all : ∀ d : Fin 4, Int.tmod (wrap64 ((d.val : Int) + 2)) 4 = (((d.val + 2) % 4 : Nat) : Int) := by decide +kernel
theorem strW_len (w h : Nat) (cs : List Int) (e : Nat) : ∀ (m : Nat) (x : Int), (strW w h cs e m x).length ≤ m
 | 0, _ => Nat.le_refl _
 | m + 1, x => by
  unfold strW
  rw [List.length_cons]
  split
  ·simp
  ·have := strW_len w h cs e m (aN w h cs e x.toNat)
   omega
section
variable {w h : Nat} {cs : List Int} (hw : w ≤ 7) (hh : h ≤ 7) (hs : w * h ≤ 36) {d : Nat} (hd : d < 4) (hn : cs.length = w * h)
include hw hh hs hd hn
theorem own_l1 (c : List Int) (n i : Int) (out : List (List Int)) (r : List (List Int)) : ∀ (m : Nat) (x : Int) (own : List Int), 0 ≤ x → x < ((w * h : Nat) : Int) → lf w h x.toNat ((d + 2) % 4) < m → own.length + m ≤ 500 →
  Ev (fun k => spec_tiStretches.l2 k d out (own ++ strW w h cs ((d + 2) % 4) m x) 0 c n i w h cs) r → Ev (fun k => spec_tiStretches.l1 k d out own x c n i w h cs) r
 | 0, x, own, _, _, hl, _, _ => absurd hl (Nat.not_lt_zero _)
 | m + 1, x, own, x0, x1, hl, ho, hE => by
  have he : (d + 2) % 4 < 4 := Nat.mod_lt _ (by omega)
  have hxt : x.toNat < w * h := by omega
  have hA := aN_eq hw hh hs hxt he cs hn
  rw [Int.toNat_of_nonneg x0, ← back_all ⟨d, hd⟩] at hA
  obtain ⟨_, l2⟩ := lf_all ⟨w, by omega⟩ ⟨h, by omega⟩ ⟨x.toNat, by omega⟩ ⟨(d + 2) % 4, he⟩ hxt
  have hlt := aN_lt hw hh hs hxt he cs
  unfold strW at hE
  have h1 : Ev (fun k => spec_tiStretches.l1 k d out (own ++ [x]) (aN w h cs ((d + 2) % 4) x.toNat) c n i w h cs) r := by
   by_cases hz : aN w h cs ((d + 2) % 4) x.toNat < 0
   ·rw [if_pos hz] at hE
    refine Ev.step hE fun k => ?_
    simp only [spec_tiStretches.l1]
    rw [if_neg (by omega)]
   ·rw [if_neg hz] at hE
    have ha : aN w h cs ((d + 2) % 4) x.toNat = an w h x.toNat ((d + 2) % 4) := by
     unfold aN at hz ⊢
     split
     ·rename_i h5
      rw [if_pos h5] at hz
      omega
     ·rename_i h5
      rw [if_neg h5] at hz
      split
      ·rename_i h6
       rw [if_pos h6] at hz
       omega
      ·rfl
    simp only at l2
    have h6 := l2 (by omega)
    refine own_l1 c n i out r m _ (own ++ [x]) (by omega) hlt (by rw [ha]; omega) (by simp; omega) ?_
    rw [List.append_assoc]
    exact hE
  refine Ev.step h1 fun k => ?_
  simp only [spec_tiStretches.l1]
  rw [if_pos (by omega), if_pos (by omega), hA, Option.bind_some]
def sts (w h : Nat) (cs : List Int) (d : Nat) : Nat → Nat → List (List Int) → List (List Int)
 | 0, _, out => out
 | m + 1, j, out => if rd cs (j : Int) = 35 then sts w h cs d m (j + 1) out else if 0 ≤ aN w h cs d j then sts w h cs d m (j + 1) out else sts w h cs d m (j + 1) (insM (strW w h cs ((d + 2) % 4) 36 (j : Int)) out)
theorem sts_l0 : ∀ (m j : Nat) (out : List (List Int)), j + m = w * h → (∀ t ∈ out, t ≠ [] ∧ t.length ≤ 1000) → out.length + m ≤ 400 → Ev (fun k => spec_tiStretches.l0 k d out cs (cs.length : Int) (j : Int) w h cs) (sts w h cs d m j out)
 | 0, j, out, hj, _, _ => by
  refine Ev.step (Ev.const rfl) fun k => ?_
  simp only [spec_tiStretches.l0]
  rw [if_neg (by omega)]
  rfl
 | m + 1, j, out, hj, hb, hl => by
  have hjt : j < w * h := by omega
  have he : (d + 2) % 4 < 4 := Nat.mod_lt _ (by omega)
  have hA := aN_eq hw hh hs hjt hd cs hn
  have hB := aN_eq hw hh hs hjt he cs hn
  rw [← back_all ⟨d, hd⟩] at hB
  simp only at hB
  unfold sts
  by_cases h35 : rd cs (j : Int) = 35
  ·rw [if_pos h35]
   have ih := sts_l0 m (j + 1) out (by omega) hb (by omega)
   rw [← wr1 j (by omega)] at ih
   refine Ev.step (Ev.step (g := fun k => spec_tiStretches.j1 k d out j cs (cs.length : Int) j true w h cs) ih fun k => ?_) fun k => ?_
   ·simp only [spec_tiStretches.j1, if_true]
   ·simp only [spec_tiStretches.l0]
    rw [if_pos (by omega), if_pos (by omega), if_pos (by omega), if_pos h35]
  ·rw [if_neg h35]
   by_cases h0 : 0 ≤ aN w h cs d j
   ·rw [if_pos h0]
    have ih := sts_l0 m (j + 1) out (by omega) hb (by omega)
    rw [← wr1 j (by omega)] at ih
    refine Ev.step (Ev.step (g := fun k => spec_tiStretches.j1 k d out j cs (cs.length : Int) j true w h cs) ih fun k => ?_) fun k => ?_
    ·simp only [spec_tiStretches.j1, if_true]
    ·simp only [spec_tiStretches.l0]
     rw [if_pos (by omega), if_pos (by omega), if_pos (by omega), if_neg h35, hA, Option.bind_some, decide_eq_true (by omega)]
   ·rw [if_neg h0]
    have hne : strW w h cs ((d + 2) % 4) 36 (j : Int) ≠ [] := by
     unfold strW
     simp
    have hsl := strW_len w h cs ((d + 2) % 4) 36 (j : Int)
    have hip := (insM_perm (strW w h cs ((d + 2) % 4) 36 (j : Int)) out)
    have ih := sts_l0 m (j + 1) (insM (strW w h cs ((d + 2) % 4) 36 (j : Int)) out) (by omega) (fun t ht => by
     rcases List.mem_cons.1 (hip.subset ht) with rfl | ht
     ·exact ⟨hne, by omega⟩
     ·exact hb t ht) (by rw [hip.length_eq, List.length_cons]; omega)
    rw [← wr1 j (by omega)] at ih
    have h2 := ins_l2 d _ hne (by omega) cs (cs.length : Int) j w h cs _ out [] hb (by simp; omega) ih
    have h3 : ∀ R, Ev (fun k => spec_tiStretches.l2 k d out (strW w h cs ((d + 2) % 4) 36 (j : Int)) 0 cs (cs.length : Int) j w h cs) R → Ev (fun k => spec_tiStretches.l1 k d out [(j : Int)] (aN w h cs ((d + 2) % 4) j) cs (cs.length : Int) j w h cs) R := by
     intro R h2
     unfold strW at h2
     rw [Int.toNat_natCast] at h2
     by_cases hz : aN w h cs ((d + 2) % 4) j < 0
     ·rw [if_pos hz] at h2
      refine Ev.step h2 fun k => ?_
      simp only [spec_tiStretches.l1]
      rw [if_neg (by omega)]
     ·rw [if_neg hz] at h2
      obtain ⟨l1, l2⟩ := lf_all ⟨w, by omega⟩ ⟨h, by omega⟩ ⟨(aN w h cs ((d + 2) % 4) j).toNat, by have := aN_lt hw hh hs hjt he cs; omega⟩ ⟨(d + 2) % 4, he⟩ (by have := aN_lt hw hh hs hjt he cs; simp only; omega)
      exact own_l1 hw hh hs hd hn cs (cs.length : Int) j out _ 35 _ [(j : Int)] (by omega) (aN_lt hw hh hs hjt he cs) (by simp only at l1; omega) (by simp) h2
    refine Ev.step (Ev.step (g := fun k => spec_tiStretches.j1 k d out j cs (cs.length : Int) j false w h cs) (h3 _ h2) fun k => ?_) fun k => ?_
    ·simp only [spec_tiStretches.j1, Bool.false_eq_true, if_false]
     rw [hB, Option.bind_some]
    ·simp only [spec_tiStretches.l0]
     rw [if_pos (by omega), if_pos (by omega), if_pos (by omega), if_neg h35, hA, Option.bind_some, decide_eq_false (by omega)]
end
theorem sts_perm (w h : Nat) (cs : List Int) (d : Nat) : ∀ (m j : Nat) (out : List (List Int)), (sts w h cs d m j out).Perm (out ++ (((List.range' j m).filter fun i : Nat => decide (rd cs (i : Int) ≠ 35) && decide (aN w h cs d i < 0)).map fun i : Nat => strW w h cs ((d + 2) % 4) 36 (i : Int)))
 | 0, j, out => by simp [sts]
 | m + 1, j, out => by
  rw [List.range'_succ]
  unfold sts
  split
  ·rename_i h1
   rw [List.filter_cons_of_neg (by simp [h1])]
   exact sts_perm w h cs d m (j + 1) out
  ·rename_i h1
   split
   ·rename_i h2
    rw [List.filter_cons_of_neg (by simp; omega)]
    exact sts_perm w h cs d m (j + 1) out
   ·rename_i h2
    rw [List.filter_cons_of_pos (by simp [h1]; omega), List.map_cons]
    refine (sts_perm w h cs d m (j + 1) _).trans ?_
    refine ((insM_perm _ out).append_right _).trans ?_
    exact List.perm_middle.symm
theorem sts_sorted (w h : Nat) (cs : List Int) (d : Nat) : ∀ (m j : Nat) (out : List (List Int)), out.Pairwise (fun a b => Lib.minOf a ≤ Lib.minOf b) → (sts w h cs d m j out).Pairwise (fun a b => Lib.minOf a ≤ Lib.minOf b)
 | 0, _, _, hp => hp
 | m + 1, j, out, hp => by
  unfold sts
  split
  ·exact sts_sorted w h cs d m (j + 1) out hp
  ·split
   ·exact sts_sorted w h cs d m (j + 1) out hp
   ·exact sts_sorted w h cs d m (j + 1) _ (insM_sorted _ out hp)
section
variable {w h : Nat} {cs : List Int} (hw : w ≤ 7) (hh : h ≤ 7) (hs : w * h ≤ 36) {d : Nat} (hd : d < 4)
include hw hh hs hd
theorem str_sorted : (strL w h cs d).Pairwise fun a b => Lib.minOf a < Lib.minOf b := by
 have h1 : (strL w h cs d).Pairwise fun a b => leM a b = true := List.pairwise_mergeSort (fun a b c h1 h2 => by
  unfold leM at *
  simp only [decide_eq_true_eq] at *
  omega) (fun a b => by
  unfold leM
  simp only [Bool.or_eq_true, decide_eq_true_eq]
  omega) _
 refine strict_of (h1.imp fun h2 => by unfold leM at h2; simpa using h2) ?_
 have h3 := mins_nodup (cuts_nodup hw hh hs hd (cs := cs)) (cuts_ne hw hh hs hd)
 exact ((List.mergeSort_perm (cutsL w h cs d) leM).map Lib.minOf).nodup_iff.2 h3
theorem sts_eq : sts w h cs d (w * h) 0 [] = strL w h cs d := by
 have hp : (sts w h cs d (w * h) 0 []).Perm (cutsL w h cs d) := by
  refine (sts_perm w h cs d (w * h) 0 []).trans ?_
  refine List.Perm.trans ?_ (cuts_perm hw hh hs hd (cs := cs)).symm
  rw [List.nil_append]
  unfold startsL
  rw [List.map_map, List.range_eq_range']
  exact List.Perm.refl _
 refine sort_same _ _ (hp.trans (List.mergeSort_perm _ leM).symm) ?_ (str_sorted hw hh hs hd)
 refine strict_of (sts_sorted w h cs d _ _ [] List.Pairwise.nil) ?_
 exact (hp.map Lib.minOf).nodup_iff.2 (mins_nodup (cuts_nodup hw hh hs hd (cs := cs)) (cuts_ne hw hh hs hd))
theorem tiStretches_ev (hn : cs.length = w * h) : Ev (fun k => spec_tiStretches.f k w h cs d) (strL w h cs d) := by
 rw [← sts_eq hw hh hs hd]
 unfold spec_tiStretches.f
 exact sts_l0 hw hh hs hd hn (w * h) 0 [] (by omega) (fun _ ht => by cases ht) (by simp; omega)
end
end Go.Proofs.YtohfcmhidjaohaaDoor.Q
end
section
namespace Go.Proofs.YtohfcmhidjaohaaDoor.Q
open Go.RowKit Go.Proofs.YtohfcmhidjaohaaDoorW.PrintWords Go.Proofs.YtohfcmhidjaohaaDoorW.PrintLast Go.Proofs.YtohfcmhidjaohaaDoorW.PrintMore
attribute [local go_sem] max2_int min2_int max_two min_two max_three min_three max_four min_four
set_option linter.unusedVariables false
set_option linter.unusedSimpArgs false
def spec_tyBalls.l0 : Nat → List Int → List Int → Int → Int → Option (List Int)
 | 0, _, _, _, _ => none
 | k + 1, x3, x7, x8, x9 => if x9 < x8 then (if 0 ≤ x9 then (if x9 < (x7.length : Int) then ((spec_tyBall.f (rd x7 x9)).bind fun t103 => (if t103 = true then (if x3.length < 17592186044416 then (spec_tyBalls.l0 k (x3 ++ [x9]) x7 x8 (wrap64 (x9 + 1))) else (none)) else (spec_tyBalls.l0 k x3 x7 x8 (wrap64 (x9 + 1))))) else (none)) else (none)) else (some x3)
def spec_tyBalls.f (k : Nat) (a0_0 : Int) (a0_1 : Int) (l0_2 : List Int) : Option (List Int) := spec_tyBalls.l0 k ([] : List Int) l0_2 (l0_2.length : Int) 0
set_option maxHeartbeats 8000000 in
set_option maxRecDepth 100000 in
theorem spec_tyBalls.calls (k : Nat) (a0_0 : Int) (a0_1 : Int) (A0_2 : Option Addr) (c0_2 : Nat) (l0_2 : List Int) (r : List Int) (w : World) (hr0_2 : Kd.C (Kd.int .u8) w A0_2 l0_2.length l0_2) (hc0_2 : l0_2.length ≤ c0_2) (h : spec_tyBalls.f k a0_0 a0_1 l0_2 = some r) :
  Calls Tryd.prog 60 #[.agg #[.int .i64 a0_0, .int .i64 a0_1, .slice A0_2 l0_2.length c0_2]] w fun e w' => ∃ v0_ : Value, e = .returned (v0_) ∧ Kd.R (Kd.int .i64) 3 w' w.heap.size (fun _ => True) v0_ r ∧ Below w.heap.size w w' := by
 have hu37 := Tryd.underlying37
 have HR0_2 := Aside0.mk hr0_2
 have HC0_2 := Aside0.mk hc0_2
 clear hr0_2 hc0_2
 have HB := Aside0.mk (Below.refl w.heap.size w)
 have H : (spec_tyBalls.l0 k ([] : List Int) l0_2 (l0_2.length : Int) 0) = some r := h
 clear h
 have H' := Aside0.mk H
 clear H
 go_enter Tryd.func60, Tryd.ntmps60
 go_wp2_with (first | ((with_reducible refine gate_dst (N := 1) rfl ?_); refine boxE (N := 1) (cs := #[.int .i64 a0_0, .int .i64 a0_1, .slice A0_2 l0_2.length c0_2]) (t := 37) ?_; intro gb101 hg w2 hbox hb; have n0_ := Aside0.mk (below_step (bel HB) hb); have n1_ := Aside0.mk (hbox); have n2_ := Aside0.mk (gsz hg (bel HB)); have n3_ := Aside0.mk (gsz hg (bel HB)); clear HB; have HB := n0_; have BK101 := n1_; have GW101 := n2_; have GE101 := n3_; clear n0_ n1_ n2_ n3_; clear hb hbox hg; have hcz3_0 : w2.cell? ⟨gb101, 0, none⟩ = some (.int .i64 a0_0) := (blk_cell BK101.out 0).trans rfl; have hcz3_1 : w2.cell? ⟨gb101, 1, none⟩ = some (.int .i64 a0_1) := (blk_cell BK101.out 1).trans rfl; have hcz3_2 : w2.cell? ⟨gb101, 2, none⟩ = some (.slice A0_2 l0_2.length c0_2) := (blk_cell BK101.out 2).trans rfl; have hfz3_0 := blk_frozen BK101.out 0; have hfz3_1 := blk_frozen BK101.out 1; have hfz3_2 := blk_frozen BK101.out 2))
 go_loopg [3, 9] k (fun kq v3 v9 w' => ∃ (x3_1 : List Int) (x9_1 : Int), v9 = .int .i64 x9_1 ∧ Aside0 (spec_tyBalls.l0 kq x3_1 l0_2 (l0_2.length : Int) x9_1 = some r) ∧ Aside0 (kq ≤ k) ∧ Aside0 (Kd.R (Kd.int .i64) 3 w' w.heap.size (fun _ => True) v3 x3_1) ∧ Aside0 (w'.heap[gb101]? = some (.cells #[.int .i64 a0_0, .int .i64 a0_1, (.slice A0_2 l0_2.length c0_2)] 37 (0, 0))) ∧ Aside0 (Below w.heap.size w w'))
 case atStart => exact ⟨(([] : List Int)), (0), (by first | rfl | (simp; done) | (simp [*]; done)), H', ⟨Nat.le_refl _⟩, ⟨by first | exact Kd.R_nil _ _ _ _ _ | exact Kd.N_nil _ _ _ _ _ | exact Kd.V_nil _ _ _ _ _ | exact Kd.Q_nil _ _ _ _ _ | exact Kd.S_nil _ _ _ _ _⟩, ⟨blc⟩, ⟨bel HB⟩⟩
 case round =>
  clear H'
  try clear p2
  try clear hcz3_0
  try clear hcz3_1
  try clear hcz3_2
  try clear hfz3_0
  try clear hfz3_1
  try clear hfz3_2
  obtain ⟨x3_1, x9_1, rfl, HA, HK1, HO_3, BK101, HB⟩ := hrel
  cases gk with
  | zero => exact absurd HA.out (by simp [spec_tyBalls.l0])
  | succ k1 =>
   have H := HA.out
   clear HA
   simp only [spec_tyBalls.l0] at H
   by_cases c4 : x9_1 < (l0_2.length : Int)
   ·rw [if_pos c4] at H
    have c4b0 : decide (x9_1 < (l0_2.length : Int)) = true := decide_eq_true c4
    clear c4
    by_cases c5 : 0 ≤ x9_1
    ·rw [if_pos c5] at H
     have c5b0 : decide (0 ≤ x9_1) = true := decide_eq_true c5
     clear c5
     by_cases c6 : x9_1 < (l0_2.length : Int)
     ·rw [if_pos c6] at H
      have c6b0 : decide (x9_1 < (l0_2.length : Int)) = true := decide_eq_true c6
      clear c6
      replace H := Option.bind_eq_some_iff.mp H
      obtain ⟨t103, A70, H⟩ := H
      replace H : (if t103 = true then (if x3_1.length < 17592186044416 then (spec_tyBalls.l0 k1 (x3_1 ++ [x9_1]) l0_2 (l0_2.length : Int) (wrap64 (x9_1 + 1))) else (none)) else (spec_tyBalls.l0 k1 x3_1 l0_2 (l0_2.length : Int) (wrap64 (x9_1 + 1)))) = some r := H
      have A7 := Aside0.mk A70
      clear A70
      by_cases c8 : t103 = true
      ·subst c8
       have H1 : (if x3_1.length < 17592186044416 then (spec_tyBalls.l0 k1 (x3_1 ++ [x9_1]) l0_2 (l0_2.length : Int) (wrap64 (x9_1 + 1))) else (none)) = some r := by rw [if_pos rfl] at H; exact H
       clear H
       have H := H1
       clear H1
       by_cases c9 : x3_1.length < 17592186044416
       ·rw [if_pos c9] at H
        have LMc9 := Aside0.mk c9
        clear c9
        obtain ⟨y104, hy104⟩ : ∃ y_ : List Int, y_ = (x3_1 ++ [x9_1]) := ⟨_, rfl⟩
        replace H : (spec_tyBalls.l0 k1 y104 l0_2 (l0_2.length : Int) (wrap64 (x9_1 + 1))) = some r := rH hy104 H
        have Ny104 := Aside0.mk hy104
        clear hy104
        have H' := Aside0.mk H
        clear H
        have p102 : 0 ≤ (x9_1 : Int) := of_decide_eq_true (by first | (with_reducible assumption) | assumption)
        have q102 : x9_1 < (l0_2.length : Int) := of_decide_eq_true (by first | (with_reducible assumption) | assumption)
        obtain ⟨ad102, e102, hx102_0⟩ := Kd.at_int HR0_2.out x9_1 p102 q102
        cases e102
        (try replace hx102_0 := (HB.out.cell (World.block_lt_of_cell? w _ hx102_0)).trans hx102_0)
        replace p102 := eq_true p102
        replace q102 := eq_true q102
        go_wp2_with (first | ((with_reducible refine gate_callee (f := 69) rfl ?_); refine gcall (some 15) Tryd.func69 #[.int .u8 (rd l0_2 x9_1)] rfl ?_; (with_reducible refine (spec_tyBall.calls (rd l0_2 x9_1) true _ A7.out).mono ?_); rintro e w' ⟨rfl, ⟨nd, rfl⟩⟩; refine ⟨_, rfl, ?_⟩) | ((with_reducible refine gate_builtin (b := .append) (xs := #[.tmp 16, .tmp 18]) rfl ?_); at_builtin; refine Kd.R_append (Kd.int .i64) (w0 := w) w.heap.size rfl (.tmp 16) (.tmp 18) 46 3 (.int .i64 0) 8 rfl Tryd.underlying46 info3 rfl (by decide) (by omega) u3 x3_1 x9_1 [.int .i64 x9_1] (fun _ => True) (fun _ => False) rfl rfl ?aP (fun _ hk => hk.elim) ?aF ?aO ?aB ?aS ?aL ?_; (case aP => exact rfl); (case aB => exact (bel HB)); (case aF => exact (fun _ _ => trivial)); (case aO => exact (rch HO_3)); (case aS => exact (below_size (bel HB))); (case aL => have := LMc9.out; omega); intro v105 w10 ho hb hg hat; rw [← Ny104.out] at ho; have n0_ := Aside0.mk (blk_grown (g := gb101) (o := .cells #[.int .i64 a0_0, .int .i64 a0_1, .slice (some ad102) l0_2.length c0_2] 37 (0, 0)) blc hg (Kd.R_ne HO_3.out BK101.out (by decide))); have n1_ := Aside0.mk (hb); have n2_ := Aside0.mk (ho); clear BK101; clear HB; clear HO_3; have BK101 := n0_; have HB := n1_; have HO106 := n2_; clear n0_ n1_ n2_; clear ho hb hg hat))
        go_roundg k1
        case measure => have := HK1.out; omega
        case rel => exact ⟨(y104), (wrap64 (x9_1 + 1)), (by first | rfl | (simp; done) | (simp [*]; done)), H', ⟨by have := HK1.out; omega⟩, ⟨rch HO106⟩, ⟨blc⟩, ⟨bel HB⟩⟩
       ·rw [if_neg c9] at H
        exact absurd H (by simp)
      ·replace c8 := Bool.eq_false_iff.mpr c8
       subst c8
       have H1 : (spec_tyBalls.l0 k1 x3_1 l0_2 (l0_2.length : Int) (wrap64 (x9_1 + 1))) = some r := by rw [if_neg (show ¬ (false = true) by decide)] at H; exact H
       clear H
       have H := H1
       clear H1
       have H' := Aside0.mk H
       clear H
       have p102 : 0 ≤ (x9_1 : Int) := of_decide_eq_true (by first | (with_reducible assumption) | assumption)
       have q102 : x9_1 < (l0_2.length : Int) := of_decide_eq_true (by first | (with_reducible assumption) | assumption)
       obtain ⟨ad102, e102, hx102_0⟩ := Kd.at_int HR0_2.out x9_1 p102 q102
       cases e102
       (try replace hx102_0 := (HB.out.cell (World.block_lt_of_cell? w _ hx102_0)).trans hx102_0)
       replace p102 := eq_true p102
       replace q102 := eq_true q102
       go_wp2_with (first | ((with_reducible refine gate_callee (f := 69) rfl ?_); refine gcall (some 15) Tryd.func69 #[.int .u8 (rd l0_2 x9_1)] rfl ?_; (with_reducible refine (spec_tyBall.calls (rd l0_2 x9_1) false _ A7.out).mono ?_); rintro e w' ⟨rfl, ⟨nd, rfl⟩⟩; refine ⟨_, rfl, ?_⟩))
       go_roundg k1
       case measure => have := HK1.out; omega
       case rel => exact ⟨(x3_1), (wrap64 (x9_1 + 1)), (by first | rfl | (simp; done) | (simp [*]; done)), H', ⟨by have := HK1.out; omega⟩, ⟨rch HO_3⟩, ⟨blc⟩, ⟨bel HB⟩⟩
     ·rw [if_neg c6] at H
      exact absurd H (by simp)
    ·rw [if_neg c5] at H
     exact absurd H (by simp)
   ·rw [if_neg c4] at H
    have c4b0 : decide (x9_1 < (l0_2.length : Int)) = false := decide_eq_false c4
    clear c4
    obtain rfl := Option.some.inj H
    go_wp2
    go_ret
    exact ⟨_, by first | rfl | (simp [errW_none, errW_some] <;> rfl) | (simp [*, errW_none, errW_some] <;> rfl), rch HO_3, bel HB⟩
end Go.Proofs.YtohfcmhidjaohaaDoor.Q
end
section
namespace Go.Proofs.YtohfcmhidjaohaaDoor.Q
open Go.RowKit Go.Proofs.YtohfcmhidjaohaaDoorW.PrintWords Go.Proofs.YtohfcmhidjaohaaDoorW.PrintLast Go.Proofs.YtohfcmhidjaohaaDoorW.PrintMore
set_option linter.unusedSectionVars false
def ballsTo (cs : List Int) (t : Nat) : List Int := ((List.range t).filter (fun j : Nat => bI cs (j : Int))).map (fun j : Nat => (j : Int))
def ballsOf (cs : List Int) : List Int := ballsTo cs cs.length
theorem ballsTo_succ (cs : List Int) (t : Nat) : ballsTo cs (t + 1) = ballsTo cs t ++ if bI cs (t : Int) = true then [(t : Int)] else [] := by
 unfold ballsTo
 rw [List.range_succ, List.filter_append, List.map_append]
 congr 1
 by_cases hm : bI cs (t : Int) = true
 ·rw [if_pos hm]; simp [hm]
 ·rw [if_neg hm]; simp [hm]
theorem ballsTo_len (cs : List Int) (t : Nat) : (ballsTo cs t).length ≤ t := by
 unfold ballsTo
 rw [List.length_map]
 have := List.length_filter_le (fun j : Nat => bI cs (j : Int)) (List.range t)
 rw [List.length_range] at this
 exact this
theorem tyBalls_l0 (cs : List Int) (hc : cs.length ≤ 36) : ∀ (m t : Nat), t + m = cs.length → Ev (fun k => spec_tyBalls.l0 k (ballsTo cs t) cs cs.length t) (ballsOf cs)
 | 0, t, ht => by
  obtain rfl : t = cs.length := by omega
  refine Ev.step (Ev.const (o := some (ballsOf cs)) rfl) fun k => ?_
  rw [spec_tyBalls.l0, if_neg (by omega)]
  rfl
 | m + 1, t, ht => by
  have ih := tyBalls_l0 cs hc m (t + 1) (by omega)
  have hwt : wrap64 ((t : Int) + 1) = ((t + 1 : Nat) : Int) := by rw [w64 (by omega) (by omega)]; omega
  have c1 : (t : Int) < (cs.length : Int) := by omega
  have c0 : (0 : Int) ≤ (t : Int) := by omega
  have c6 : (ballsTo cs t).length < 17592186044416 := Nat.lt_of_le_of_lt (Nat.le_trans (ballsTo_len cs t) (show t ≤ 36 by omega)) (by decide)
  rw [ballsTo_succ] at ih
  refine Ev.step ih fun k => ?_
  rw [spec_tyBalls.l0, if_pos c1, if_pos c0, if_pos c1, tyBall_eq, Option.bind_some, hwt]
  show (if bI cs t = true then _ else _) = _
  by_cases h1 : bI cs t = true
  ·rw [if_pos h1, if_pos c6, if_pos h1]
  ·rw [if_neg h1, if_neg h1, List.append_nil]
theorem tyBalls_ev (cs : List Int) (hc : cs.length ≤ 36) (w h : Int) : Ev (fun k => spec_tyBalls.f k w h cs) (ballsOf cs) := tyBalls_l0 cs hc cs.length 0 (by omega)
theorem rows_mem (c b : UInt8) : ∀ l, b ∈ (rows c l).flatten ↔ b ∈ l ∧ b ≠ c
 | [] => by simp [rows]
 | a :: l => by
  have ih := rows_mem c b l
  unfold rows
  split
  ·rename_i e
   subst e
   rw [List.flatten_cons, List.nil_append, ih, List.mem_cons]
   constructor
   ·rintro ⟨h1, h2⟩; exact ⟨Or.inr h1, h2⟩
   ·rintro ⟨h1, h2⟩; exact ⟨h1.resolve_left h2, h2⟩
  ·rename_i hne
   split
   ·rename_i e; exact absurd e (rows_ne c l)
   ·rename_i r rs e
    rw [e, List.flatten_cons] at ih
    rw [List.flatten_cons, List.cons_append, List.mem_cons, ih, List.mem_cons]
    constructor
    ·rintro (h1 | ⟨h1, h2⟩)
     ·exact ⟨Or.inl h1, by rw [h1]; exact hne⟩
     ·exact ⟨Or.inr h1, h2⟩
    ·rintro ⟨h1 | h1, h2⟩
     ·exact Or.inl h1
     ·exact Or.inr ⟨h1, h2⟩
end Go.Proofs.YtohfcmhidjaohaaDoor.Q
end
section
namespace Go.Proofs.YtohfcmhidjaohaaDoor.Q
open Go.RowKit Go.Proofs.YtohfcmhidjaohaaDoorW.PrintWords Go.Proofs.YtohfcmhidjaohaaDoorW.PrintLast Go.Proofs.YtohfcmhidjaohaaDoorW.PrintMore
theorem dw_nil {α : Type} (p : α → Bool) : ∀ l : List α, l.dropWhile p = [] ↔ ∀ b ∈ l, p b = true
 | [] => by simp
 | b :: l => by
  rw [List.dropWhile_cons]
  by_cases h : p b = true
  ·rw [if_pos h, dw_nil p l]
   simp [h]
  ·rw [if_neg h]
   simp [h]
theorem dw_all {α : Type} (p : α → Bool) : ∀ l : List α, (∀ b ∈ l.dropWhile p, p b = true) → ∀ b ∈ l, p b = true
 | [], _ => by simp
 | b :: l, h => by
  rw [List.dropWhile_cons] at h
  by_cases hb : p b = true
  ·rw [if_pos hb] at h
   have ih := dw_all p l h
   simpa [hb] using ih
  ·rw [if_neg hb] at h
   exact h
theorem trimS_nil (l cs : List UInt8) : Lib.trimS l cs = [] ↔ ∀ b ∈ l, cs.contains b = true := by
 unfold Lib.trimS Lib.trimLeftS Lib.trimRightS
 rw [dw_nil]
 constructor
 ·intro h
  have h2 := dw_all (cs.contains ·) l.reverse (fun b hb => h b (by simpa using hb))
  exact fun b hb => h2 b (by simpa using hb)
 ·intro h b hb
  rw [List.mem_reverse] at hb
  exact h b (by simpa using (List.dropWhile_sublist _).subset hb)
theorem trim_tell (s cut : ByteArray) (hs : s.size ≤ 1048576) (hc : cut.size < 100) (ha : asciiB cut.data.toList = true) :
  ∃ t, strings_Trim.f s cut = some t ∧ (t.toList = [] ↔ ∀ b ∈ s.data.toList, cut.data.toList.contains b = true) := by
 refine ⟨_, if_pos ⟨by omega, by omega, ha⟩, ?_⟩
 rw [← trimS_nil]
 generalize Lib.trimS s.data.toList cut.data.toList = l
 have e : (⟨l.toArray⟩ : ByteArray).toList = l := ByteArray.toList_mk l
 rw [e]
theorem encode_name : ∀ n : Fin 6, Utf8.encode (97 + (n.val : Int)) = ⟨#[UInt8.ofNat (97 + n.val)]⟩ := by decide +kernel
theorem count_name (s : ByteArray) (n : Nat) (h1 : 97 ≤ n) (h2 : n ≤ 102) : (runeS.f (n : Int)).bind (fun t => strings_Count.f s t) = some ((s.data.toList.count (UInt8.ofNat n) : Nat) : Int) := by
 have h := encode_name ⟨n - 97, by omega⟩
 simp only [show (97 + ((n - 97 : Nat) : Int)) = (n : Int) by omega, show 97 + (n - 97) = n by omega] at h
 unfold runeS.f
 rw [Option.bind_some, h]
 rfl
theorem it_l1 (s : ByteArray) : ∀ (m n : Nat), 97 ≤ n → n + m = 103 → ∀ R : Bool, (R = true ↔ ∀ c : Nat, n ≤ c → c ≤ 102 → s.data.toList.count (UInt8.ofNat c) ≤ 1) → Ev (fun k => impl_IsTray.l1 k s n) R
 | 0, n, h1, h2, R, hR => by
  obtain rfl : R = true := hR.2 fun c h3 h4 => by omega
  refine Ev.step (Ev.const (o := some true) rfl) fun k => ?_
  rw [impl_IsTray.l1, if_neg (by omega)]
 | m + 1, n, h1, h2, R, hR => by
  have hc := count_name s n h1 (by omega)
  obtain ⟨t, e1, e2⟩ := Option.bind_eq_some_iff.1 hc
  have hw : wrap32 ((n : Int) + 1) = ((n + 1 : Nat) : Int) := by unfold wrap32; omega
  by_cases hn : s.data.toList.count (UInt8.ofNat n) ≤ 1
  ·have ih := it_l1 s m (n + 1) (by omega) (by omega) R (hR.trans ⟨fun h c h3 h4 => h c (by omega) h4, fun h c h3 h4 => by
    by_cases h5 : n = c
    ·rw [← h5]; exact hn
    ·exact h c (by omega) h4⟩)
   refine Ev.step ih fun k => ?_
   rw [impl_IsTray.l1, if_pos (by omega), e1, Option.bind_some, e2, Option.bind_some, if_neg (by omega), hw]
  ·obtain rfl : R = false := Bool.eq_false_iff.2 fun h => hn (hR.1 h n (Nat.le_refl _) (by omega))
   refine Ev.step (Ev.const (o := some false) rfl) fun k => ?_
   rw [impl_IsTray.l1, if_pos (by omega), e1, Option.bind_some, e2, Option.bind_some, if_pos (by omega)]
theorem named_count (s : ByteArray) : namedOK (ints (rows 47 s.data.toList).flatten) ↔ ∀ c : Nat, 97 ≤ c → c ≤ 102 → s.data.toList.count (UInt8.ofNat c) ≤ 1 := by
 have h : ∀ c : Nat, 97 ≤ c → c ≤ 102 → (ints (rows 47 s.data.toList).flatten).count (c : Int) = s.data.toList.count (UInt8.ofNat c) := by
  intro c h1 h2
  have e : ((UInt8.ofNat c).toNat : Int) = c := by
   rw [UInt8.toNat_ofNat']
   omega
  rw [← e, ints_count, rows_count 47 (UInt8.ofNat c)]
  intro e2
  have := congrArg UInt8.toNat e2
  rw [UInt8.toNat_ofNat'] at this
  have h47 : (47 : UInt8).toNat = 47 := rfl
  omega
 constructor
 ·intro h1 c h2 h3
  rw [← h c h2 h3]
  exact h1 c (by omega) (by omega)
 ·intro h1 c h2 h3
  have h4 := h c.toNat (by omega) (by omega)
  rw [show ((c.toNat : Nat) : Int) = c by omega] at h4
  rw [h4]
  exact h1 _ (by omega) (by omega)
theorem within_eq (a lo hi : Int) : impl_within.f a lo hi = some (decide (lo ≤ a ∧ a ≤ hi)) := by
 unfold impl_within.f
 by_cases h : lo ≤ a
 ·rw [if_pos h]
  simp [h]
 ·rw [if_neg h]
  simp [h]
theorem isSize_eq (w h : Nat) (hw : w ≤ 1048576) (hh : h ≤ 1048577) : impl_isSize.f w h = some (decide (1 ≤ w ∧ w ≤ 7 ∧ 1 ≤ h ∧ h ≤ 7 ∧ w * h ≤ 36)) := by
 unfold impl_isSize.f
 rw [within_eq, Option.bind_some]
 by_cases h1 : 1 ≤ w ∧ w ≤ 7
 ·rw [decide_eq_true (by omega), if_pos rfl, within_eq, Option.bind_some]
  by_cases h2 : 1 ≤ h ∧ h ≤ 7
  ·rw [decide_eq_true (by omega), if_pos rfl]
   have h3 : w * h ≤ 7 * 7 := Nat.mul_le_mul h1.2 h2.2
   have e : wrap64 ((w : Int) * h) = ((w * h : Nat) : Int) := by
    rw [← Int.natCast_mul]
    exact w64 (by omega) (by omega)
   rw [e]
   congr 1
   exact decide_eq_decide.2 ⟨fun h => ⟨h1.1, h1.2, h2.1, h2.2, by omega⟩, fun h => by omega⟩
  ·rw [decide_eq_false (by omega), if_neg (by decide), decide_eq_false (by omega)]
 ·rw [decide_eq_false (by omega), if_neg (by decide), decide_eq_false (by omega)]
theorem rowsL_len (s : ByteArray) : (rowsL s).length = (rows 47 s.data.toList).length := by rw [← rowsL_map, List.length_map]
theorem rowsL_drop (s : ByteArray) (i : Nat) (h : i < (rowsL s).length) : (rows 47 s.data.toList).drop i = (rdOf ByteArray.empty (rowsL s) (i : Int)).data.toList :: (rows 47 s.data.toList).drop (i + 1) := by
 rw [← rowsL_map]
 have h2 : i < ((rowsL s).map (·.data.toList)).length := by rw [List.length_map]; exact h
 rw [List.drop_eq_getElem_cons h2]
 congr 1
 unfold rdOf
 rw [List.getElem_map, Int.toNat_natCast, List.getD_eq_getElem?_getD, List.getElem?_eq_getElem h]
 rfl
theorem rowsL_tw (s : ByteArray) (h : 0 < (rowsL s).length) : (rdOf ByteArray.empty (rowsL s) 0).size = tw (rows 47 s.data.toList) := by
 have e := rowsL_drop s 0 h
 rw [List.drop_zero] at e
 unfold tw
 rw [e, List.headD_cons, data_length]
 rfl
theorem rows_le (c : UInt8) (l r : List UInt8) (h : r ∈ rows c l) : r.length ≤ l.length := by
 have h1 := rows_flat c l
 have h2 : r.length ≤ (rows c l).flatten.length := (List.sublist_flatten_of_mem h).length_le
 omega
def cutAll : ByteArray := ⟨#[35, 46, 111, 97, 98, 99, 100, 101, 102]⟩
theorem it_l0 (s : ByteArray) (hs : s.size ≤ 1048576) (w : Nat) (hw : (rdOf ByteArray.empty (rowsL s) 0).size = w) (K : Bool) (hK : Ev (fun k => impl_IsTray.l1 k s 97) K) :
  ∀ (m i : Nat), i + m = (rowsL s).length → Ev (fun k => impl_IsTray.l0 k s (rowsL s) (rowsL s) (rowsL s).length i) (if evenRows w ((rows 47 s.data.toList).drop i) then K else false)
 | 0, i, hi => by
  have e : (rows 47 s.data.toList).drop i = [] := List.drop_eq_nil_of_le (by rw [← rowsL_len]; omega)
  rw [e, if_pos (show evenRows w [] from fun r hr => by simp at hr)]
  refine Ev.step hK fun k => ?_
  rw [impl_IsTray.l0, if_neg (by omega)]
 | m + 1, i, hi => by
  have ih := it_l0 s hs w hw K hK m (i + 1) (by omega)
  have hlt : i < (rowsL s).length := by omega
  have hlen : (rowsL s).length ≤ 1048577 := by
   have h1 := rows_size 47 s.data.toList
   have h2 := data_length s
   rw [rowsL_len]
   omega
  have hd := rowsL_drop s i hlt
  have hrow : (rdOf ByteArray.empty (rowsL s) (i : Int)).data.toList ∈ rows 47 s.data.toList := (List.drop_sublist i _).subset (by rw [hd]; exact List.mem_cons_self)
  have hsz : (rdOf ByteArray.empty (rowsL s) (i : Int)).size ≤ 1048576 := by
   have h1 := rows_le 47 _ _ hrow
   rw [data_length, data_length] at h1
   omega
  have hwr : wrap64 ((i : Int) + 1) = ((i + 1 : Nat) : Int) := by rw [w64 (by omega) (by omega)]; omega
  rw [hd]
  generalize hrw : rdOf ByteArray.empty (rowsL s) (i : Int) = row at hsz hd ⊢
  obtain ⟨t, et, ht⟩ := trim_tell row cutAll hsz (by decide) (by decide)
  have hcell : (∀ b ∈ row.data.toList, cutAll.data.toList.contains b = true) ↔ row.data.toList.all isCellB = true := by
   rw [List.all_eq_true]
   rfl
  rw [ite_iff ((evenRows_cons w row.data.toList ((rows 47 s.data.toList).drop (i + 1))).trans (show _ ↔ (row.size = w ∧ t.toList = []) ∧ evenRows w ((rows 47 s.data.toList).drop (i + 1)) by rw [← hcell, ← ht, data_length]))]
  by_cases h1 : row.size = w
  ·by_cases h2 : t.toList = []
   ·rw [ite_iff (show ((row.size = w ∧ t.toList = []) ∧ evenRows w ((rows 47 s.data.toList).drop (i + 1))) ↔ evenRows w ((rows 47 s.data.toList).drop (i + 1)) from ⟨fun h => h.2, fun h => ⟨⟨h1, h2⟩, h⟩⟩)]
    refine Ev.step ih fun k => ?_
    rw [impl_IsTray.l0, if_pos (by omega), if_pos (by omega), if_pos (by omega), if_pos (by omega), hrw, hw, if_pos (by omega)]
    show (strings_Trim.f row cutAll).bind _ = _
    rw [et, Option.bind_some, if_pos h2, hwr]
   ·rw [if_neg fun h => h2 h.1.2]
    refine Ev.step (Ev.const (o := some false) rfl) fun k => ?_
    rw [impl_IsTray.l0, if_pos (by omega), if_pos (by omega), if_pos (by omega), if_pos (by omega), hrw, hw, if_pos (by omega)]
    show (strings_Trim.f row cutAll).bind _ = _
    rw [et, Option.bind_some, if_neg h2]
  ·rw [if_neg fun h => h1 h.1.1]
   refine Ev.step (Ev.const (o := some false) rfl) fun k => ?_
   rw [impl_IsTray.l0, if_pos (by omega), if_pos (by omega), if_pos (by omega), if_pos (by omega), hrw, hw, if_neg (by omega)]
theorem isTray_ev (s : ByteArray) (hs : s.size ≤ 1048576) : Ev (fun k => impl_IsTray.f k s) (trayOf s).isSome := by
 have h1 := rows_size 47 s.data.toList
 have h2 := data_length s
 have h3 := rowsL_len s
 have hne : 0 < (rowsL s).length := by
  rw [h3]
  exact List.length_pos_iff.2 (rows_ne 47 _)
 have hw := rowsL_tw s hne
 have hwle : tw (rows 47 s.data.toList) ≤ 1048576 := by
  have e := rowsL_drop s 0 hne
  rw [List.drop_zero] at e
  have := rows_le 47 s.data.toList _ (by rw [e]; exact List.mem_cons_self)
  rw [data_length, data_length] at this
  have h4 : (rdOf ByteArray.empty (rowsL s) ((0 : Nat) : Int)).size = (rdOf ByteArray.empty (rowsL s) 0).size := rfl
  omega
 have hsp : strings_Split.f s ⟨#[47]⟩ = some (rowsL s) := if_pos ⟨by omega, by decide⟩
 have hss := isSize_eq (tw (rows 47 s.data.toList)) (rowsL s).length hwle (by omega)
 have hf : ∀ k, impl_IsTray.f k s = if decide (1 ≤ tw (rows 47 s.data.toList) ∧ tw (rows 47 s.data.toList) ≤ 7 ∧ 1 ≤ (rowsL s).length ∧ (rowsL s).length ≤ 7 ∧ tw (rows 47 s.data.toList) * (rowsL s).length ≤ 36) = true then impl_IsTray.l0 k s (rowsL s) (rowsL s) (rowsL s).length 0 else some false := by
  intro k
  unfold impl_IsTray.f
  rw [hsp, Option.bind_some, if_pos (by omega), hw, hss, Option.bind_some]
 refine Ev.congr ?_ hf
 unfold trayOf trayRows
 by_cases hc : 1 ≤ tw (rows 47 s.data.toList) ∧ tw (rows 47 s.data.toList) ≤ 7 ∧ 1 ≤ (rowsL s).length ∧ (rowsL s).length ≤ 7 ∧ tw (rows 47 s.data.toList) * (rowsL s).length ≤ 36
 ·rw [decide_eq_true hc]
  refine Ev.congr ?_ (fun k => if_pos rfl)
  have h5 := it_l0 s hs _ hw (decide (namedOK (ints (rows 47 s.data.toList).flatten))) (it_l1 s 6 97 (by omega) (by omega) _ (by rw [decide_eq_true_iff]; exact named_count s)) (rowsL s).length 0 (by omega)
  rw [List.drop_zero] at h5
  have e : (if okRows (rows 47 s.data.toList) then some ((tw (rows 47 s.data.toList) : Int), ((rows 47 s.data.toList).length : Int), ints (rows 47 s.data.toList).flatten) else none).isSome =
    if evenRows (tw (rows 47 s.data.toList)) (rows 47 s.data.toList) then decide (namedOK (ints (rows 47 s.data.toList).flatten)) else false := by
   by_cases h6 : evenRows (tw (rows 47 s.data.toList)) (rows 47 s.data.toList)
   ·by_cases h7 : namedOK (ints (rows 47 s.data.toList).flatten)
    ·rw [if_pos h6, if_pos (show okRows _ from ⟨by rw [h3] at hc; omega, h6, h7⟩), decide_eq_true h7]
     rfl
    ·rw [if_pos h6, if_neg fun h => h7 h.2.2, decide_eq_false h7]
     rfl
   ·rw [if_neg h6, if_neg fun h => h6 h.2.1]
    rfl
  rw [e]
  exact h5
 ·rw [if_neg fun h => hc (by have h4 := h.1; rw [h3]; omega), decide_eq_false hc]
  exact Ev.congr (Ev.const (o := some false) rfl) (fun k => if_neg (by decide))
theorem joined_ints (s : ByteArray) : bytesOf (joinedB s) = ints (rows 47 s.data.toList).flatten := by
 unfold bytesOf ints
 rw [joinedB_list]
theorem trayOf_row (s : ByteArray) : trayOf s = none ∨ (s.size ≤ 42 ∧ impl_read.f s = trayOf s) := by
 rcases h : trayOf s with _ | t
 ·exact Or.inl rfl
 ·have hs := trayOf_small s (by rw [h]; exact fun e => nomatch e)
  refine Or.inr ⟨hs, ?_⟩
  rw [← h]
  have hne : 0 < (rowsL s).length := by
   rw [rowsL_len]
   exact List.length_pos_iff.2 (rows_ne 47 _)
  have hw := rowsL_tw s hne
  unfold trayOf trayRows at h ⊢
  split at h
  ·rename_i hk
   rw [if_pos hk]
   unfold impl_read.f
   rw [if_pos (by omega), joined_ints, rowsL_len, ← hw]
   rfl
  ·cases h
theorem trayOf_some {s : ByteArray} {t : Int × Int × List Int} (ht : trayOf s = some t) : ∃ w h : Nat, t = ((w : Int), (h : Int), ints (rows 47 s.data.toList).flatten) ∧ 1 ≤ w ∧ w ≤ 7 ∧ 1 ≤ h ∧ h ≤ 7 ∧ w * h ≤ 36 ∧ (ints (rows 47 s.data.toList).flatten).length = w * h := by
 unfold trayOf trayRows at ht
 split at ht
 ·rename_i hk
  have h1 := evenRows_flat _ _ hk.2.1
  have h2 := List.length_pos_iff.2 (rows_ne 47 s.data.toList)
  have h3 := hk.1
  refine ⟨_, _, (Option.some.inj ht).symm, h3.1, h3.2.1, by omega, h3.2.2.1, h3.2.2.2, ?_⟩
  rw [ints_length, h1]
 ·cases ht
theorem form_len {s : ByteArray} {t : Int × Int × List Int} (ht : trayOf s = some t) : t.2.2.length ≤ 36 := by
 obtain ⟨w, h, rfl, h1, h2, h3, h4, h5, h6⟩ := trayOf_some ht
 show (ints _).length ≤ 36
 omega
theorem tray_parts {s : ByteArray} {t : Int × Int × List Int} (ht : trayOf s = some t) : ∃ (w h : Nat) (cs : List Int), t = ((w : Int), (h : Int), cs) ∧ 1 ≤ w ∧ w ≤ 7 ∧ 1 ≤ h ∧ h ≤ 7 ∧ w * h ≤ 36 ∧ cs.length = w * h := by
 obtain ⟨w, h, e, h1, h2, h3, h4, h5, h6⟩ := trayOf_some ht
 exact ⟨w, h, _, e, h1, h2, h3, h4, h5, h6⟩
theorem tray_read {s : ByteArray} {t : Int × Int × List Int} (ht : trayOf s = some t) : impl_read.f s = some t := by
 rw [← ht]
 exact ((trayOf_row s).resolve_left (by rw [ht]; exact fun e => nomatch e)).2
end Go.Proofs.YtohfcmhidjaohaaDoor.Q
end
section
namespace Go.Proofs.YtohfcmhidjaohaaDoor.Q
open Go.RowKit Go.Proofs.YtohfcmhidjaohaaDoorW.PrintWords Go.Proofs.YtohfcmhidjaohaaDoorW.PrintLast Go.Proofs.YtohfcmhidjaohaaDoorW.PrintMore
attribute [local go_sem] max2_int min2_int max_two min_two max_three min_three max_four min_four
set_option linter.unusedVariables false
set_option linter.unusedSimpArgs false
def spec_tiDirs.f  : Option (ByteArray) := some (⟨#[117, 114, 100, 108]⟩ : ByteArray)
set_option maxHeartbeats 8000000 in
set_option maxRecDepth 100000 in
theorem spec_tiDirs.calls  (r : ByteArray) (w : World) (h : spec_tiDirs.f  = some r) :
  Calls Tryd.prog 45 #[] w fun e w' => e = .returned (.string r) ∧ Drawn0 w w' := by
 have H : (some (⟨#[117, 114, 100, 108]⟩ : ByteArray)) = some r := h
 clear h
 obtain rfl := Option.some.inj H
 go_enter Tryd.func45, Tryd.ntmps45
 go_wp2
 go_ret
 exact ⟨by first | rfl | (simp; done) | (simp [*]; done), by repeat (first | exact Drawn0.refl _ | apply Drawn0.step)⟩
end Go.Proofs.YtohfcmhidjaohaaDoor.Q
end
section
namespace Go.Proofs.YtohfcmhidjaohaaDoor.Q
open Go.RowKit Go.Shelf Go.Proofs.YtohfcmhidjaohaaDoorW.PrintWords Go.Proofs.YtohfcmhidjaohaaDoorW.PrintLast Go.Proofs.YtohfcmhidjaohaaDoorW.PrintMore
def strings_Contains.f (a0 a1 : ByteArray) : Option Bool := if a1.size = 1 then some (decide (0 ≤ Lib.indexByte a0.data.toList (a1.data.toList.getD 0 0))) else none
theorem strings_Contains.calls (a0 a1 : ByteArray) (r : Bool) (w : World) (h : strings_Contains.f a0 a1 = some r) :
  Calls Tryd.prog 62 #[.string a0, .string a1] w fun e w' => e = .returned (.bool r) ∧ Drawn0 w w' := by
 unfold strings_Contains.f at h
 split at h
 ·rename_i hc
  obtain rfl := Option.some.inj h
  obtain ⟨c, rfl⟩ := Lib.one_byte a1 hc
  exact (Tryd.strings_Contains_one a0 c w).mono fun e w' ⟨he, hw⟩ => ⟨he, hw ▸ Drawn0.refl _⟩
 ·cases h
end Go.Proofs.YtohfcmhidjaohaaDoor.Q
end
section
namespace Go.Proofs.YtohfcmhidjaohaaDoor.Q
open Go.RowKit Go.Proofs.YtohfcmhidjaohaaDoorW.PrintWords Go.Proofs.YtohfcmhidjaohaaDoorW.PrintLast Go.Proofs.YtohfcmhidjaohaaDoorW.PrintMore
attribute [local go_sem] max2_int min2_int max_two min_two max_three min_three max_four min_four
set_option linter.unusedVariables false
set_option linter.unusedSimpArgs false
def spec_tiDir.l0 : Nat → ByteArray → Int → Option (Int)
 | 0, _, _ => none
 | k + 1, x0, x3 => if x3 < 4 then ((spec_tiDirs.f).bind fun t101 => (if 0 ≤ x3 then (if x3 ≤ (wrap64 (x3 + 1)) then (if (wrap64 (x3 + 1)) ≤ (t101.size : Int) then (if x0.toList = (t101.extract (x3 : Int).toNat ((wrap64 (x3 + 1)) : Int).toNat).toList then (some x3) else (spec_tiDir.l0 k x0 (wrap64 (x3 + 1)))) else (none)) else (none)) else (none))) else (some (-1))
def spec_tiDir.f (k : Nat) (a0 : ByteArray) : Option (Int) := spec_tiDir.l0 k a0 0
set_option maxHeartbeats 8000000 in
set_option maxRecDepth 100000 in
theorem spec_tiDir.calls (k : Nat) (a0 : ByteArray) (r : Int) (w : World) (h : spec_tiDir.f k a0 = some r) :
  Calls Tryd.prog 36 #[.string a0] w fun e w' => e = .returned (.int .i64 r) ∧ Drawn0 w w' := by
 have H : (spec_tiDir.l0 k a0 0) = some r := h
 clear h
 have H' := Aside0.mk H
 clear H
 go_enter Tryd.func36, Tryd.ntmps36
 go_wp2
 go_loopg [3] k (fun kq v3 w' => ∃ (x3_1 : Int), v3 = .int .i64 x3_1 ∧ Aside0 (spec_tiDir.l0 kq a0 x3_1 = some r) ∧ Aside0 (kq ≤ k) ∧ Drawn0 w w')
 case atStart => exact ⟨(0), (by first | rfl | (simp; done) | (simp [*]; done)), H', ⟨Nat.le_refl _⟩, by repeat (first | exact Drawn0.refl _ | apply Drawn0.step)⟩
 case round =>
  clear H'
  obtain ⟨x3_1, rfl, HA, HK1, ⟨m1, rfl⟩⟩ := hrel
  cases gk with
  | zero => exact absurd HA.out (by simp [spec_tiDir.l0])
  | succ k1 =>
   have H := HA.out
   clear HA
   simp only [spec_tiDir.l0] at H
   by_cases c2 : x3_1 < 4
   ·rw [if_pos c2] at H
    have c2b0 : decide (x3_1 < 4) = true := decide_eq_true c2
    clear c2
    replace H := Option.bind_eq_some_iff.mp H
    obtain ⟨t101, A30, H⟩ := H
    replace H : (if 0 ≤ x3_1 then (if x3_1 ≤ (wrap64 (x3_1 + 1)) then (if (wrap64 (x3_1 + 1)) ≤ (t101.size : Int) then (if a0.toList = (t101.extract (x3_1 : Int).toNat ((wrap64 (x3_1 + 1)) : Int).toNat).toList then (some x3_1) else (spec_tiDir.l0 k1 a0 (wrap64 (x3_1 + 1)))) else (none)) else (none)) else (none)) = some r := H
    have A3 := Aside0.mk A30
    clear A30
    by_cases c4 : 0 ≤ x3_1
    ·rw [if_pos c4] at H
     have c4b0 := eq_true c4
     have c4b1 : decide (0 ≤ x3_1) = true := decide_eq_true c4
     clear c4
     by_cases c5 : x3_1 ≤ (wrap64 (x3_1 + 1))
     ·rw [if_pos c5] at H
      have c5b0 := eq_true c5
      have c5b1 : decide (x3_1 ≤ (wrap64 (x3_1 + 1))) = true := decide_eq_true c5
      by_cases c6 : (wrap64 (x3_1 + 1)) ≤ (t101.size : Int)
      ·rw [if_pos c6] at H
       have c6b0 := eq_true c6
       have c6b1 : decide ((wrap64 (x3_1 + 1)) ≤ (t101.size : Int)) = true := decide_eq_true c6
       by_cases c7 : a0.toList = (t101.extract (x3_1 : Int).toNat ((wrap64 (x3_1 + 1)) : Int).toNat).toList
       ·rw [if_pos c7] at H
        have c7b0 : (a0.toList == (t101.extract (x3_1 : Int).toNat ((wrap64 (x3_1 + 1)) : Int).toNat).toList) = true := beq_iff_eq.mpr c7
        have c7b1 : (a0.toList != (t101.extract (x3_1 : Int).toNat ((wrap64 (x3_1 + 1)) : Int).toNat).toList) = false := bne_eq_false_iff_eq.mpr c7
        clear c7
        obtain rfl := Option.some.inj H
        go_wp2_with (first | ((with_reducible refine gate_callee (f := 45) rfl ?_); refine gcall (some 9) Tryd.func45 #[] rfl ?_; (with_reducible refine (spec_tiDirs.calls  t101 _ A3.out).mono ?_); rintro e w' ⟨rfl, ⟨nd, rfl⟩⟩; refine ⟨_, rfl, ?_⟩))
        go_ret
        exact ⟨by first | rfl | (simp; done) | (simp [*]; done), by repeat (first | exact Drawn0.refl _ | apply Drawn0.step)⟩
       ·rw [if_neg c7] at H
        have c7b0 : (a0.toList == (t101.extract (x3_1 : Int).toNat ((wrap64 (x3_1 + 1)) : Int).toNat).toList) = false := beq_eq_false_iff_ne.mpr c7
        have c7b1 : (a0.toList != (t101.extract (x3_1 : Int).toNat ((wrap64 (x3_1 + 1)) : Int).toNat).toList) = true := bne_iff_ne.mpr c7
        have H' := Aside0.mk H
        clear H
        go_wp2_with (first | ((with_reducible refine gate_callee (f := 45) rfl ?_); refine gcall (some 9) Tryd.func45 #[] rfl ?_; (with_reducible refine (spec_tiDirs.calls  t101 _ A3.out).mono ?_); rintro e w' ⟨rfl, ⟨nd, rfl⟩⟩; refine ⟨_, rfl, ?_⟩))
        go_roundg k1
        case measure => have := HK1.out; omega
        case rel => exact ⟨(wrap64 (x3_1 + 1)), (by first | rfl | (simp; done) | (simp [*]; done)), H', ⟨by have := HK1.out; omega⟩, by repeat (first | exact Drawn0.refl _ | apply Drawn0.step)⟩
      ·rw [if_neg c6] at H
       exact absurd H (by simp)
     ·rw [if_neg c5] at H
      exact absurd H (by simp)
    ·rw [if_neg c4] at H
     exact absurd H (by simp)
   ·rw [if_neg c2] at H
    have c2b0 : decide (x3_1 < 4) = false := decide_eq_false c2
    clear c2
    obtain rfl := Option.some.inj H
    go_wp2
    go_ret
    exact ⟨by first | rfl | (simp; done) | (simp [*]; done), by repeat (first | exact Drawn0.refl _ | apply Drawn0.step)⟩
def impl_isDir.f (a0 : ByteArray) : Option (Bool) := if (a0.size : Int) = 1 then ((strings_Contains.f (⟨#[117, 114, 100, 108]⟩ : ByteArray) a0).bind fun t101 => (some t101)) else (some false)
set_option maxHeartbeats 8000000 in
set_option maxRecDepth 100000 in
theorem impl_isDir.calls (a0 : ByteArray) (r : Bool) (w : World) (h : impl_isDir.f a0 = some r) :
  Calls Tryd.prog 38 #[.string a0] w fun e w' => e = .returned (.bool r) ∧ Drawn0 w w' := by
 have H : (if (a0.size : Int) = 1 then ((strings_Contains.f (⟨#[117, 114, 100, 108]⟩ : ByteArray) a0).bind fun t101 => (some t101)) else (some false)) = some r := h
 clear h
 by_cases c2 : (a0.size : Int) = 1
 ·rw [if_pos c2] at H
  have c2b0 : ((a0.size : Int) == 1) = true := beq_iff_eq.mpr c2
  have c2b1 : ((a0.size : Int) != 1) = false := bne_eq_false_iff_eq.mpr c2
  clear c2
  replace H := Option.bind_eq_some_iff.mp H
  obtain ⟨t101, A30, H⟩ := H
  replace H : (some t101) = some r := H
  have A3 := Aside0.mk A30
  clear A30
  obtain rfl := Option.some.inj H
  go_enter Tryd.func38, Tryd.ntmps38
  go_wp2_with (first | (go_at_call 62; (with_reducible refine (strings_Contains.calls (⟨#[117, 114, 100, 108]⟩ : ByteArray) a0 t101 _ A3.out).mono ?_); rintro e w' ⟨rfl, ⟨nd, rfl⟩⟩))
  go_ret
  exact ⟨by first | rfl | (simp; done) | (simp [*]; done), by repeat (first | exact Drawn0.refl _ | apply Drawn0.step)⟩
 ·rw [if_neg c2] at H
  have c2b0 : ((a0.size : Int) == 1) = false := beq_eq_false_iff_ne.mpr c2
  have c2b1 : ((a0.size : Int) != 1) = true := bne_iff_ne.mpr c2
  obtain rfl := Option.some.inj H
  go_enter Tryd.func38, Tryd.ntmps38
  go_wp2
  go_ret
  exact ⟨by first | rfl | (simp; done) | (simp [*]; done), by repeat (first | exact Drawn0.refl _ | apply Drawn0.step)⟩
end Go.Proofs.YtohfcmhidjaohaaDoor.Q
end
section
namespace Go.Proofs.YtohfcmhidjaohaaDoor.Q
set_option linter.unusedSectionVars false
open Go.RowKit Go.Proofs.YtohfcmhidjaohaaDoorW.PrintWords Go.Proofs.YtohfcmhidjaohaaDoorW.PrintLast Go.Proofs.YtohfcmhidjaohaaDoorW.PrintMore
def dirB (d : Nat) : UInt8 := ([117, 114, 100, 108] : List UInt8).getD d 0
theorem toList_data (s : ByteArray) : s.toList = s.data.toList := by
 obtain ⟨⟨l⟩⟩ := s
 exact ByteArray.toList_mk l
theorem has_byte : ∀ (l : List UInt8) (c : UInt8), decide (0 ≤ Lib.indexByte l c) = decide (c ∈ l)
 | [], c => by simp [Lib.indexByte]
 | b :: l, c => by
  have ih := has_byte l c
  have hge := Lib.indexByte_ge l c
  unfold Lib.indexByte
  by_cases hb : b = c
  ·subst hb
   simp
  ·have h1 : (b == c) = false := by simpa using hb
   have h2 : (c ∈ b :: l) ↔ c ∈ l := by simp [Ne.symm hb]
   rw [h1, decide_eq_decide.2 h2, ← ih]
   rw [decide_eq_decide]
   rw [if_neg Bool.false_ne_true]
   by_cases h3 : Lib.indexByte l c = -1
   ·rw [h3]
    decide
   ·rw [show (Lib.indexByte l c == -1) = false by simpa using h3, if_neg Bool.false_ne_true]
    omega
def dirFrom (l : List UInt8) : Nat → Nat → Int
 | 0, _ => -1
 | m + 1, t => if l = [dirB t] then t else dirFrom l m (t + 1)
def dirI (s : ByteArray) : Int := dirFrom s.data.toList 4 0
theorem cut_toList : ∀ d : Fin 4, ((⟨#[117, 114, 100, 108]⟩ : ByteArray).extract ((d.val : Int)).toNat (((d.val + 1 : Nat) : Int)).toNat).toList = [dirB d.val] := by
 intro d
 rw [toList_data]
 revert d
 decide
theorem tiDir_l0 (s : ByteArray) : ∀ (m t : Nat), t + m = 4 → Ev (fun k => spec_tiDir.l0 k s t) (dirFrom s.data.toList m t)
 | 0, t, ht => by
  obtain rfl : t = 4 := by omega
  refine Ev.step (Ev.const (o := some (-1)) rfl) fun k => ?_
  rw [spec_tiDir.l0, if_neg (by decide)]
 | m + 1, t, ht => by
  have ih := tiDir_l0 s m (t + 1) (by omega)
  have ht4 : t < 4 := by omega
  have hwt : wrap64 ((t : Int) + 1) = ((t + 1 : Nat) : Int) := by rw [w64 (by omega) (by omega)]; omega
  have hcut := cut_toList ⟨t, ht4⟩
  simp only at hcut
  have hsz : ((⟨#[117, 114, 100, 108]⟩ : ByteArray).size : Int) = 4 := rfl
  unfold dirFrom
  have hgo : ∀ k, spec_tiDir.l0 (k + 1) s t = if s.data.toList = [dirB t] then some (t : Int) else spec_tiDir.l0 k s ((t + 1 : Nat) : Int) := by
   intro k
   rw [spec_tiDir.l0, if_pos (by omega), hwt]
   show (Option.some (⟨#[117, 114, 100, 108]⟩ : ByteArray)).bind _ = _
   rw [Option.bind_some, if_pos (by omega), if_pos (by omega), if_pos (by rw [hsz]; omega), hcut, toList_data]
  by_cases he : s.data.toList = [dirB t]
  ·rw [if_pos he]
   exact Ev.step (Ev.const (o := some (t : Int)) rfl) fun k => by rw [hgo, if_pos he]
  ·rw [if_neg he]
   exact Ev.step ih fun k => by rw [hgo, if_neg he]
theorem tiDir_ev (s : ByteArray) : Ev (fun k => spec_tiDir.f k s) (dirI s) := tiDir_l0 s 4 0 (by omega)
theorem dirI_cases (s : ByteArray) : (dirI s = -1 ∧ ∀ d : Nat, d < 4 → s.data.toList ≠ [dirB d]) ∨ ∃ d : Nat, d < 4 ∧ dirI s = d ∧ s.data.toList = [dirB d] := by
 unfold dirI dirFrom
 by_cases h0 : s.data.toList = [dirB 0]
 ·exact Or.inr ⟨0, by omega, by rw [if_pos h0], h0⟩
 rw [if_neg h0]
 unfold dirFrom
 by_cases h1 : s.data.toList = [dirB (0 + 1)]
 ·exact Or.inr ⟨1, by omega, by rw [if_pos h1], h1⟩
 rw [if_neg h1]
 unfold dirFrom
 by_cases h2 : s.data.toList = [dirB (0 + 1 + 1)]
 ·exact Or.inr ⟨2, by omega, by rw [if_pos h2], h2⟩
 rw [if_neg h2]
 unfold dirFrom
 by_cases h3 : s.data.toList = [dirB (0 + 1 + 1 + 1)]
 ·exact Or.inr ⟨3, by omega, by rw [if_pos h3], h3⟩
 rw [if_neg h3]
 refine Or.inl ⟨rfl, fun d hd => ?_⟩
 obtain h | h | h | h : d = 0 ∨ d = 1 ∨ d = 2 ∨ d = 3 := by omega
 ·subst h; exact h0
 ·subst h; exact h1
 ·subst h; exact h2
 ·subst h; exact h3
theorem one_byte_of {s : ByteArray} {b : UInt8} (h : s.data.toList = [b]) : s = ⟨#[b]⟩ := by
 obtain ⟨⟨l⟩⟩ := s
 simp at h
 subst h
 rfl
theorem dirB_mem : ∀ c : UInt8, c ∈ ([117, 114, 100, 108] : List UInt8) → ∃ d : Nat, d < 4 ∧ c = dirB d := by
 intro c hc
 simp only [List.mem_cons, List.not_mem_nil, or_false] at hc
 rcases hc with h | h | h | h
 ·exact ⟨0, by omega, h⟩
 ·exact ⟨1, by omega, h⟩
 ·exact ⟨2, by omega, h⟩
 ·exact ⟨3, by omega, h⟩
theorem isDir_eq (s : ByteArray) : impl_isDir.f s = some (decide (0 ≤ dirI s)) := by
 unfold impl_isDir.f
 rcases dirI_cases s with ⟨h1, h2⟩ | ⟨d, hd, h1, h2⟩
 ·rw [h1]
  by_cases hs : (s.size : Int) = 1
  ·rw [if_pos hs]
   have hs2 : s.size = 1 := by omega
   obtain ⟨c, rfl⟩ := Lib.one_byte s hs2
   unfold strings_Contains.f
   rw [if_pos (show (⟨#[c]⟩ : ByteArray).size = 1 from rfl), has_byte, Option.bind_some]
   congr 1
   show decide (c ∈ ([117, 114, 100, 108] : List UInt8)) = _
   rw [decide_eq_decide]
   constructor
   ·intro hc
    obtain ⟨d, hd, rfl⟩ := dirB_mem c hc
    exact absurd rfl (h2 d hd)
   ·intro h
    omega
  ·rw [if_neg hs]
   rfl
 ·obtain rfl := one_byte_of h2
  rw [h1, if_pos (show ((⟨#[dirB d]⟩ : ByteArray).size : Int) = 1 from rfl)]
  unfold strings_Contains.f
  rw [if_pos (show (⟨#[dirB d]⟩ : ByteArray).size = 1 from rfl), has_byte, Option.bind_some]
  congr 1
  rw [decide_eq_decide]
  constructor
  ·intro _
   omega
  ·intro _
   show dirB d ∈ ([117, 114, 100, 108] : List UInt8)
   obtain h | h | h | h : d = 0 ∨ d = 1 ∨ d = 2 ∨ d = 3 := by omega
   ·subst h; decide
   ·subst h; decide
   ·subst h; decide
   ·subst h; decide
end Go.Proofs.YtohfcmhidjaohaaDoor.Q
end
section
namespace Go.Proofs.YtohfcmhidjaohaaDoor.Q
open Go.RowKit Go.Proofs.YtohfcmhidjaohaaDoorW.PrintWords Go.Proofs.YtohfcmhidjaohaaDoorW.PrintLast Go.Proofs.YtohfcmhidjaohaaDoorW.PrintMore
attribute [local go_sem] max2_int min2_int max_two min_two max_three min_three max_four min_four
set_option linter.unusedVariables false
set_option linter.unusedSimpArgs false
mutual
def spec_cnBare.j0 : Nat → Bool → Int → Int → List Int → Option (Int × Int × List Int × Int × Bool)
 | 0, _, _, _, _ => none
 | k + 1, x22, x109000, x109001, x109002 => if x22 = true then (some (x109000, x109001, x109002, 0, false)) else (spec_cnBare.l0 k 0 x109002 (x109002.length : Int) 0 x109000 x109001 x109002)
def spec_cnBare.l0 : Nat → Int → List Int → Int → Int → Int → Int → List Int → Option (Int × Int × List Int × Int × Bool)
 | 0, _, _, _, _, _, _, _ => none
 | k + 1, x7, x25, x26, x27, x109000, x109001, x109002 => if x27 < x26 then (if 0 ≤ x27 then (if x27 < (x25.length : Int) then (if (rd x25 x27) = 46 then (spec_cnBare.l0 k (wrap64 (x7 + 1)) x25 x26 (wrap64 (x27 + 1)) x109000 x109001 x109002) else (spec_cnBare.l0 k x7 x25 x26 (wrap64 (x27 + 1)) x109000 x109001 x109002)) else (none)) else (none)) else (some (x109000, x109001, x109002, x7, true))
end
def spec_cnBare.f (k : Nat) (a0 : ByteArray) : Option (Int × Int × List Int × Int × Bool) := (spec_tyRead.f k a0).bind fun bt102 => (if bt102.2.2.2 = true then ((spec_tyBalls.f k bt102.1 bt102.2.1 bt102.2.2.1).bind fun t109 => (spec_cnBare.j0 k (decide ((t109.length : Int) > 0)) bt102.1 bt102.2.1 bt102.2.2.1)) else (spec_cnBare.j0 k true bt102.1 bt102.2.1 bt102.2.2.1))
set_option maxHeartbeats 8000000 in
set_option maxRecDepth 100000 in
theorem spec_cnBare.calls (k : Nat) (a0 : ByteArray) (r1 : Int) (r2 : Int) (r3 : List Int) (r4 : Int) (r5 : Bool) (w : World) (h : spec_cnBare.f k a0 = some (r1, r2, r3, r4, r5)) :
  Calls Tryd.prog 35 #[.string a0] w fun e w' => ∃ v2_ : Value, e = .returned (.tuple #[.agg #[.int .i64 r1, .int .i64 r2, v2_], .int .i64 r4, .bool r5]) ∧ Kd.R (Kd.int .u8) 5 w' w.heap.size (fun _ => True) v2_ r3 ∧ Below w.heap.size w w' := by
 have hu37 := Tryd.underlying37
 have HB := Aside0.mk (Below.refl w.heap.size w)
 have H : ((spec_tyRead.f k a0).bind fun bt102 => (if bt102.2.2.2 = true then ((spec_tyBalls.f k bt102.1 bt102.2.1 bt102.2.2.1).bind fun t109 => (spec_cnBare.j0 k (decide ((t109.length : Int) > 0)) bt102.1 bt102.2.1 bt102.2.2.1)) else (spec_cnBare.j0 k true bt102.1 bt102.2.1 bt102.2.2.1))) = some (r1, r2, r3, r4, r5) := h
 clear h
 replace H := Option.bind_eq_some_iff.mp H
 obtain ⟨⟨t102, t103, t104, t107⟩, A20, H⟩ := H
 replace H : (if t107 = true then ((spec_tyBalls.f k t102 t103 t104).bind fun t109 => (spec_cnBare.j0 k (decide ((t109.length : Int) > 0)) t102 t103 t104)) else (spec_cnBare.j0 k true t102 t103 t104)) = some (r1, r2, r3, r4, r5) := H
 have A2 := Aside0.mk A20
 clear A20
 have HC3 := Aside0.mk H
 clear H
 go_enter Tryd.func35, Tryd.ntmps35
 go_upto_region 2 with (first | ((with_reducible refine gate_dst (N := 2) rfl ?_); refine boxE (N := 2) (cs := #[.int .i64 0, .int .i64 0, .slice none 0 0]) (t := 37) ?_; intro gb101 hg w4 hbox hb; have n0_ := Aside0.mk (below_step (bel HB) hb); have n1_ := Aside0.mk (hbox); have n2_ := Aside0.mk (gsz hg (bel HB)); have n3_ := Aside0.mk (gsz hg (bel HB)); clear HB; have HB := n0_; have BK101 := n1_; have GW101 := n2_; have GE101 := n3_; clear n0_ n1_ n2_ n3_; clear hb hbox hg) | ((with_reducible refine gate_callee (f := 42) rfl ?_); refine gcall (some 12) Tryd.func42 #[.string a0] rfl ?_; (with_reducible refine (spec_tyRead.calls k a0 t102 t103 t104 t107 _ A2.out).mono ?_); rintro e w5 ⟨v105, rfl, ho0, hb⟩; refine ⟨_, rfl, ?_⟩; have n0_ := Aside0.mk (Kd.R_lower ho0 (below_size (bel HB))); have n1_ := Aside0.mk (blk_below (g := gb101) (o := .cells #[.int .i64 0, .int .i64 0, .slice none 0 0] 37 (0, 0)) blc hb); have n2_ := Aside0.mk (below_step (bel HB) hb); clear BK101; clear HB; have HO106 := n0_; have BK101 := n1_; have HB := n2_; clear n0_ n1_ n2_; (try clear hb); (try clear hb2); (try clear hk); (try clear hi); (try clear ho0)) | ((with_reducible refine gate_dst (N := 5) rfl ?_); refine boxE (N := 5) (cs := #[.int .i64 0, .int .i64 0, .slice none 0 0]) (t := 37) ?_; intro gb108 hg w6 hbox hb; have n0_ := Aside0.mk (Kd.R_below (rch HO106) hb); have n1_ := Aside0.mk (blk_below (g := gb101) (o := .cells #[.int .i64 0, .int .i64 0, .slice none 0 0] 37 (0, 0)) blc hb); have n2_ := Aside0.mk (below_step (bel HB) hb); have n3_ := Aside0.mk (hbox); have n4_ := Aside0.mk (gsz hg (bel HB)); have n5_ := Aside0.mk (gsz hg (bel HB)); have n6_ := Aside0.mk ((by rw [hg]; exact Nat.ne_of_lt (blk_lt (g := gb101) (o := .cells #[.int .i64 0, .int .i64 0, .slice none 0 0] 37 (0, 0)) blc) : gb101 ≠ gb108)); have n7_ := Aside0.mk ((by rw [hg]; exact Nat.ne_of_gt (blk_lt (g := gb101) (o := .cells #[.int .i64 0, .int .i64 0, .slice none 0 0] 37 (0, 0)) blc) : gb108 ≠ gb101)); clear HO106; clear BK101; clear HB; have HO106 := n0_; have BK101 := n1_; have HB := n2_; have BK108 := n3_; have GW108 := n4_; have GE108 := n5_; have NB101_108 := n6_; have NB108_101 := n7_; clear n0_ n1_ n2_ n3_ n4_ n5_ n6_ n7_; clear hb hbox hg; have hnb7 := NB108_101.out; have hnc7 := NB101_108.out; have hcz8_0 : w6.cell? ⟨gb108, 0, none⟩ = some (.int .i64 0) := (blk_cell BK108.out 0).trans rfl; have hcz8_1 : w6.cell? ⟨gb108, 1, none⟩ = some (.int .i64 0) := (blk_cell BK108.out 1).trans rfl; have hcz8_2 : w6.cell? ⟨gb108, 2, none⟩ = some (.slice none 0 0) := (blk_cell BK108.out 2).trans rfl; have hfz8_0 := blk_frozen BK108.out 0; have hfz8_1 := blk_frozen BK108.out 1; have hfz8_2 := blk_frozen BK108.out 2; obtain ⟨Ao9, co9, eo9⟩ := Kd.R_slice HO106.out; subst eo9))
 (try simp only [Act.put, List.setIfInBounds_toArray, List.set_cons_zero, List.set_cons_succ])
 go_cut [22] (fun v22 wc => ∃ (kq : Nat) (x22_2 : Bool), v22 = .bool x22_2 ∧ Aside0 (spec_cnBare.j0 kq x22_2 t102 t103 t104 = some (r1, r2, r3, r4, r5)) ∧ Aside0 (kq ≤ k) ∧ Aside0 (Kd.R (Kd.int .u8) 5 wc w.heap.size (fun _ => True) (.slice Ao9 t104.length co9) t104) ∧ Aside0 (wc.heap[gb101]? = some (.cells #[.int .i64 0, .int .i64 0, (.slice none 0 0)] 37 (0, 0))) ∧ Aside0 (wc.heap[gb108]? = some (.cells #[.int .i64 t102, .int .i64 t103, (.slice Ao9 t104.length co9)] 37 (0, 0))) ∧ Aside0 (Below w.heap.size w wc))
 case first =>
  have H := HC3.out
  clear HC3
  by_cases c10 : t107 = true
  ·subst c10
   have H1 : ((spec_tyBalls.f k t102 t103 t104).bind fun t109 => (spec_cnBare.j0 k (decide ((t109.length : Int) > 0)) t102 t103 t104)) = some (r1, r2, r3, r4, r5) := by rw [if_pos rfl] at H; exact H
   clear H
   have H := H1
   clear H1
   replace H := Option.bind_eq_some_iff.mp H
   obtain ⟨t109, A110, H⟩ := H
   replace H : (spec_cnBare.j0 k (decide ((t109.length : Int) > 0)) t102 t103 t104) = some (r1, r2, r3, r4, r5) := H
   have A11 := Aside0.mk A110
   clear A110
   have H' := Aside0.mk H
   clear H
   have hnb12 := NB108_101.out
   have hnc12 := NB101_108.out
   have hcz13_0 : w6.cell? ⟨gb108, 0, none⟩ = some (.int .i64 0) := (blk_cell BK108.out 0).trans rfl
   have hcz13_1 : w6.cell? ⟨gb108, 1, none⟩ = some (.int .i64 0) := (blk_cell BK108.out 1).trans rfl
   have hcz13_2 : w6.cell? ⟨gb108, 2, none⟩ = some (.slice none 0 0) := (blk_cell BK108.out 2).trans rfl
   have hfz13_0 := blk_frozen BK108.out 0
   have hfz13_1 := blk_frozen BK108.out 1
   have hfz13_2 := blk_frozen BK108.out 2
   go_wp2_with (first | (go_at_call 60; (with_reducible refine (spec_tyBalls.calls k t102 t103 _ _ t104 t109 _ ?side1 ?side2 A11.out).mono ?_); (case side1 => refine (Kd.R_reads' (e := 5) (base := w.heap.size) (ok := fun k_ => True) (n := t104.length) (c := co9) ?_).2.2; exact (by (with_reducible repeat (first | apply Kd.R_alloc | apply Kd.R_drewN | apply Kd.R_drew)); exact (Kd.R_mono (Kd.R_far (p := ⟨gb108, 2, none⟩) (Kd.R_far (p := ⟨gb108, 1, none⟩) (Kd.R_far (p := ⟨gb108, 0, none⟩) (Kd.R_types HO106.out BK108.out (by decide)) (fun _ hk => hk.2) (.int .i64 t102)) (fun _ hk => hk.2) (.int .i64 t103)) (fun _ hk => hk.2) (.slice Ao9 t104.length co9)) (fun _ h_ => h_.1)))); (case side2 => exact (Kd.R_reads' HO106.out).2.1); rintro e w14 ⟨v110, rfl, ho0, hb⟩; have n0_ := Aside0.mk (Kd.R_below (by (with_reducible repeat (first | apply Kd.R_alloc | apply Kd.R_drewN | apply Kd.R_drew)); exact (Kd.R_mono (Kd.R_far (p := ⟨gb108, 2, none⟩) (Kd.R_far (p := ⟨gb108, 1, none⟩) (Kd.R_far (p := ⟨gb108, 0, none⟩) (Kd.R_types HO106.out BK108.out (by decide)) (fun _ hk => hk.2) (.int .i64 t102)) (fun _ hk => hk.2) (.int .i64 t103)) (fun _ hk => hk.2) (.slice Ao9 t104.length co9)) (fun _ h_ => h_.1))) hb); have n1_ := Aside0.mk (Kd.R_lower ho0 (below_size (bel HB))); have n2_ := Aside0.mk (blk_below (g := gb101) (o := .cells #[.int .i64 0, .int .i64 0, .slice none 0 0] 37 (0, 0)) (by (with_reducible repeat (first | refine blk_drewN ?_ _ | refine blk_drew ?_ | refine blk_alloc ?_ _)); refine blk_far ?_ NB101_108.out _; (with_reducible repeat (first | refine blk_drewN ?_ _ | refine blk_drew ?_ | refine blk_alloc ?_ _)); refine blk_far ?_ NB101_108.out _; (with_reducible repeat (first | refine blk_drewN ?_ _ | refine blk_drew ?_ | refine blk_alloc ?_ _)); refine blk_far ?_ NB101_108.out _; exact blc) hb); have n3_ := Aside0.mk (blk_below (g := gb108) (o := .cells #[.int .i64 t102, .int .i64 t103, .slice Ao9 t104.length co9] 37 (0, 0)) (by (with_reducible repeat (first | refine blk_drewN ?_ _ | refine blk_drew ?_ | refine blk_alloc ?_ _)); refine blk_put (cs := #[.int .i64 t102, .int .i64 t103, .slice none 0 0]) ?_ 2 _ rfl; (with_reducible repeat (first | refine blk_drewN ?_ _ | refine blk_drew ?_ | refine blk_alloc ?_ _)); refine blk_put (cs := #[.int .i64 t102, .int .i64 0, .slice none 0 0]) ?_ 1 _ rfl; (with_reducible repeat (first | refine blk_drewN ?_ _ | refine blk_drew ?_ | refine blk_alloc ?_ _)); refine blk_put (cs := #[.int .i64 0, .int .i64 0, .slice none 0 0]) ?_ 0 _ rfl; exact blc) hb); have n4_ := Aside0.mk (below_step (bel HB) hb); clear HO106; clear BK101; clear BK108; clear HB; have HO106 := n0_; have HO111 := n1_; have BK101 := n2_; have BK108 := n3_; have HB := n4_; clear n0_ n1_ n2_ n3_ n4_; (try clear hb); (try clear hb2); (try clear hk); (try clear hi); (try clear ho0); obtain ⟨Ao15, co15, eo15⟩ := Kd.R_slice HO111.out; subst eo15))
   go_meet
   case rel => exact ⟨_, (decide ((t109.length : Int) > 0)), (by first | rfl | (simp; done) | (simp [*]; done)), H', ⟨by first | omega | exact Nat.le_refl _⟩, ⟨rch HO106⟩, ⟨blc⟩, ⟨blc⟩, ⟨bel HB⟩⟩
  ·replace c10 := Bool.eq_false_iff.mpr c10
   subst c10
   have H1 : (spec_cnBare.j0 k true t102 t103 t104) = some (r1, r2, r3, r4, r5) := by rw [if_neg (show ¬ (false = true) by decide)] at H; exact H
   clear H
   have H := H1
   clear H1
   have H' := Aside0.mk H
   clear H
   go_wp2
   go_meet
   case rel => exact ⟨_, (true), (by first | rfl | (simp; done) | (simp [*]; done)), H', ⟨by first | omega | exact Nat.le_refl _⟩, ⟨by (with_reducible repeat (first | apply Kd.R_alloc | apply Kd.R_drewN | apply Kd.R_drew)); exact Kd.R_mono (Kd.R_far (p := ⟨gb108, 2, none⟩) (Kd.R_far (p := ⟨gb108, 1, none⟩) (Kd.R_far (p := ⟨gb108, 0, none⟩) (Kd.R_types HO106.out BK108.out (by decide)) (fun _ hk => hk.2) (.int .i64 t102)) (fun _ hk => hk.2) (.int .i64 t103)) (fun _ hk => hk.2) (.slice Ao9 t104.length co9)) (fun _ hk => trivial)⟩, ⟨by (with_reducible repeat (first | refine blk_drewN ?_ _ | refine blk_drew ?_ | refine blk_alloc ?_ _)); refine blk_far ?_ NB101_108.out _; (with_reducible repeat (first | refine blk_drewN ?_ _ | refine blk_drew ?_ | refine blk_alloc ?_ _)); refine blk_far ?_ NB101_108.out _; (with_reducible repeat (first | refine blk_drewN ?_ _ | refine blk_drew ?_ | refine blk_alloc ?_ _)); refine blk_far ?_ NB101_108.out _; exact blc⟩, ⟨by (with_reducible repeat (first | refine blk_drewN ?_ _ | refine blk_drew ?_ | refine blk_alloc ?_ _)); refine blk_put (cs := #[.int .i64 t102, .int .i64 t103, .slice none 0 0]) ?_ 2 _ rfl; (with_reducible repeat (first | refine blk_drewN ?_ _ | refine blk_drew ?_ | refine blk_alloc ?_ _)); refine blk_put (cs := #[.int .i64 t102, .int .i64 0, .slice none 0 0]) ?_ 1 _ rfl; (with_reducible repeat (first | refine blk_drewN ?_ _ | refine blk_drew ?_ | refine blk_alloc ?_ _)); refine blk_put (cs := #[.int .i64 0, .int .i64 0, .slice none 0 0]) ?_ 0 _ rfl; exact blc⟩, ⟨bel HB⟩⟩
 case rest =>
  clear HC3
  try clear c1
  try clear p2
  try clear c3
  try clear c4
  try clear c7
  try clear c10
  try clear c12
  try clear hcz13_0
  try clear hcz13_1
  try clear hcz13_2
  try clear hcz8_0
  try clear hcz8_1
  try clear hcz8_2
  try clear hfz13_0
  try clear hfz13_1
  try clear hfz13_2
  try clear hfz8_0
  try clear hfz8_1
  try clear hfz8_2
  obtain ⟨kq, x22_2, rfl, HA, HJ2, HO_109002, BK101, BK108, HB⟩ := hcut
  cases kq with
  | zero => exact absurd HA.out (by simp [spec_cnBare.j0])
  | succ kj2 =>
   have H := HA.out
   clear HA
   simp only [spec_cnBare.j0] at H
   by_cases c16 : x22_2 = true
   ·subst c16
    have H1 : (some (t102, t103, t104, 0, false)) = some (r1, r2, r3, r4, r5) := by rw [if_pos rfl] at H; exact H
    clear H
    have H := H1
    clear H1
    simp only [Option.some.injEq, Prod.mk.injEq] at H
    obtain ⟨rfl, rfl, rfl, rfl, rfl⟩ := H
    have hnb17 := NB108_101.out
    have hnc17 := NB101_108.out
    have hcz18_0 : wc.cell? ⟨gb108, 0, none⟩ = some (.int .i64 t102) := (blk_cell BK108.out 0).trans rfl
    have hcz18_1 : wc.cell? ⟨gb108, 1, none⟩ = some (.int .i64 t103) := (blk_cell BK108.out 1).trans rfl
    have hcz18_2 : wc.cell? ⟨gb108, 2, none⟩ = some (.slice Ao9 t104.length co9) := (blk_cell BK108.out 2).trans rfl
    have hfz18_0 := blk_frozen BK108.out 0
    have hfz18_1 := blk_frozen BK108.out 1
    have hfz18_2 := blk_frozen BK108.out 2
    have hcz19_0 : wc.cell? ⟨gb101, 0, none⟩ = some (.int .i64 0) := (blk_cell BK101.out 0).trans rfl
    have hcz19_1 : wc.cell? ⟨gb101, 1, none⟩ = some (.int .i64 0) := (blk_cell BK101.out 1).trans rfl
    have hcz19_2 : wc.cell? ⟨gb101, 2, none⟩ = some (.slice none 0 0) := (blk_cell BK101.out 2).trans rfl
    have hfz19_0 := blk_frozen BK101.out 0
    have hfz19_1 := blk_frozen BK101.out 1
    have hfz19_2 := blk_frozen BK101.out 2
    go_wp2
    refine bodyPost_ret (results_ctt rfl _ _ gb101 37 #[.int .i64 t102, .int .i64 t103, .slice Ao9 t104.length co9] (0, 0) _ rfl (by (with_reducible repeat (first | refine blk_drewN ?_ _ | refine blk_drew ?_ | refine blk_alloc ?_ _)); refine blk_put (cs := #[.int .i64 t102, .int .i64 t103, .slice none 0 0]) ?_ 2 _ rfl; (with_reducible repeat (first | refine blk_drewN ?_ _ | refine blk_drew ?_ | refine blk_alloc ?_ _)); refine blk_put (cs := #[.int .i64 t102, .int .i64 0, .slice none 0 0]) ?_ 1 _ rfl; (with_reducible repeat (first | refine blk_drewN ?_ _ | refine blk_drew ?_ | refine blk_alloc ?_ _)); refine blk_put (cs := #[.int .i64 0, .int .i64 0, .slice none 0 0]) ?_ 0 _ rfl; exact blc) Tryd.underlying37 rfl (by kernel_rfl)) rfl ?_
    exact ⟨_, by first | rfl | (simp [errW_none, errW_some] <;> rfl) | (simp [*, errW_none, errW_some] <;> rfl), by (with_reducible repeat (first | apply Kd.R_alloc | apply Kd.R_drewN | apply Kd.R_drew)); exact Kd.R_mono (Kd.R_far (p := ⟨gb101, 2, none⟩) (Kd.R_far (p := ⟨gb101, 1, none⟩) (Kd.R_far (p := ⟨gb101, 0, none⟩) (Kd.R_types HO_109002.out BK101.out (by decide)) (fun _ hk => hk.2) (.int .i64 t102)) (fun _ hk => hk.2) (.int .i64 t103)) (fun _ hk => hk.2) (.slice Ao9 t104.length co9)) (fun _ hk => trivial), bel HB⟩
   ·replace c16 := Bool.eq_false_iff.mpr c16
    subst c16
    have H1 : (spec_cnBare.l0 kj2 0 t104 (t104.length : Int) 0 t102 t103 t104) = some (r1, r2, r3, r4, r5) := by rw [if_neg (show ¬ (false = true) by decide)] at H; exact H
    clear H
    have H := H1
    clear H1
    have H' := Aside0.mk H
    clear H
    have hnb20 := NB108_101.out
    have hnc20 := NB101_108.out
    have hcz21_0 : wc.cell? ⟨gb108, 0, none⟩ = some (.int .i64 t102) := (blk_cell BK108.out 0).trans rfl
    have hcz21_1 : wc.cell? ⟨gb108, 1, none⟩ = some (.int .i64 t103) := (blk_cell BK108.out 1).trans rfl
    have hcz21_2 : wc.cell? ⟨gb108, 2, none⟩ = some (.slice Ao9 t104.length co9) := (blk_cell BK108.out 2).trans rfl
    have hfz21_0 := blk_frozen BK108.out 0
    have hfz21_1 := blk_frozen BK108.out 1
    have hfz21_2 := blk_frozen BK108.out 2
    go_wp2
    go_loopg [7, 27] kj2 (fun kq v7 v27 w' => ∃ (x7_2 : Int) (x27_2 : Int), v7 = .int .i64 x7_2 ∧ v27 = .int .i64 x27_2 ∧ Aside0 (spec_cnBare.l0 kq x7_2 t104 (t104.length : Int) x27_2 t102 t103 t104 = some (r1, r2, r3, r4, r5)) ∧ Aside0 (kq ≤ kj2) ∧ Aside0 (Kd.R (Kd.int .u8) 5 w' w.heap.size (fun _ => True) (.slice Ao9 t104.length co9) t104) ∧ Aside0 (Kd.R (Kd.int .u8) 5 w' w.heap.size (fun _ => True) (.slice Ao9 t104.length co9) t104) ∧ Aside0 (w'.heap[gb101]? = some (.cells #[.int .i64 0, .int .i64 0, (.slice none 0 0)] 37 (0, 0))) ∧ Aside0 (w'.heap[gb108]? = some (.cells #[.int .i64 t102, .int .i64 t103, (.slice Ao9 t104.length co9)] 37 (0, 0))) ∧ Aside0 (Below w.heap.size w w'))
    case atStart => exact ⟨(0), (0), (by first | rfl | (simp; done) | (simp [*]; done)), (by first | rfl | (simp; done) | (simp [*]; done)), H', ⟨Nat.le_refl _⟩, ⟨rch HO_109002⟩, ⟨rch HO_109002⟩, ⟨blc⟩, ⟨blc⟩, ⟨bel HB⟩⟩
    case round =>
     clear H'
     try clear c1
     try clear c2
     try clear p2
     try clear c3
     try clear c4
     try clear c7
     try clear c10
     try clear c12
     try clear c16
     try clear c17
     try clear c20
     try clear hcz13_0
     try clear hcz13_1
     try clear hcz13_2
     try clear hcz18_0
     try clear hcz18_1
     try clear hcz18_2
     try clear hcz19_0
     try clear hcz19_1
     try clear hcz19_2
     try clear hcz21_0
     try clear hcz21_1
     try clear hcz21_2
     try clear hcz8_0
     try clear hcz8_1
     try clear hcz8_2
     try clear hfz13_0
     try clear hfz13_1
     try clear hfz13_2
     try clear hfz18_0
     try clear hfz18_1
     try clear hfz18_2
     try clear hfz19_0
     try clear hfz19_1
     try clear hfz19_2
     try clear hfz21_0
     try clear hfz21_1
     try clear hfz21_2
     try clear hfz8_0
     try clear hfz8_1
     try clear hfz8_2
     try clear p2
     obtain ⟨x7_2, x27_2, rfl, rfl, HA, HK2, HO_25, HO_109002, BK101, BK108, HB⟩ := hrel
     cases gk with
     | zero => exact absurd HA.out (by simp [spec_cnBare.l0])
     | succ k2 =>
      have H := HA.out
      clear HA
      simp only [spec_cnBare.l0] at H
      by_cases c22 : x27_2 < (t104.length : Int)
      ·rw [if_pos c22] at H
       have c22b0 : decide (x27_2 < (t104.length : Int)) = true := decide_eq_true c22
       clear c22
       by_cases c23 : 0 ≤ x27_2
       ·rw [if_pos c23] at H
        have c23b0 : decide (0 ≤ x27_2) = true := decide_eq_true c23
        clear c23
        by_cases c24 : x27_2 < (t104.length : Int)
        ·rw [if_pos c24] at H
         have c24b0 : decide (x27_2 < (t104.length : Int)) = true := decide_eq_true c24
         clear c24
         by_cases c25 : (rd t104 x27_2) = 46
         ·rw [if_pos c25] at H
          have c25b0 : ((rd t104 x27_2) == 46) = true := beq_iff_eq.mpr c25
          have c25b1 : ((rd t104 x27_2) != 46) = false := bne_eq_false_iff_eq.mpr c25
          clear c25
          have H' := Aside0.mk H
          clear H
          have p112 : 0 ≤ (x27_2 : Int) := of_decide_eq_true (by first | (with_reducible assumption) | assumption)
          have q112 : x27_2 < (t104.length : Int) := of_decide_eq_true (by first | (with_reducible assumption) | assumption)
          obtain ⟨ad112, e112, hx112_0⟩ := Kd.at_int (Kd.R_reads' HO_25.out).2.2 x27_2 p112 q112
          cases e112
          replace p112 := eq_true p112
          replace q112 := eq_true q112
          go_wp2
          go_roundg k2
          case measure => have := HJ2.out; have := HK2.out; omega
          case rel => exact ⟨(wrap64 (x7_2 + 1)), (wrap64 (x27_2 + 1)), (by first | rfl | (simp; done) | (simp [*]; done)), (by first | rfl | (simp; done) | (simp [*]; done)), H', ⟨by have := HJ2.out; have := HK2.out; omega⟩, ⟨rch HO_25⟩, ⟨rch HO_109002⟩, ⟨blc⟩, ⟨blc⟩, ⟨bel HB⟩⟩
         ·rw [if_neg c25] at H
          have c25b0 : ((rd t104 x27_2) == 46) = false := beq_eq_false_iff_ne.mpr c25
          have c25b1 : ((rd t104 x27_2) != 46) = true := bne_iff_ne.mpr c25
          have H' := Aside0.mk H
          clear H
          have p112 : 0 ≤ (x27_2 : Int) := of_decide_eq_true (by first | (with_reducible assumption) | assumption)
          have q112 : x27_2 < (t104.length : Int) := of_decide_eq_true (by first | (with_reducible assumption) | assumption)
          obtain ⟨ad112, e112, hx112_0⟩ := Kd.at_int (Kd.R_reads' HO_25.out).2.2 x27_2 p112 q112
          cases e112
          replace p112 := eq_true p112
          replace q112 := eq_true q112
          go_wp2
          go_roundg k2
          case measure => have := HJ2.out; have := HK2.out; omega
          case rel => exact ⟨(x7_2), (wrap64 (x27_2 + 1)), (by first | rfl | (simp; done) | (simp [*]; done)), (by first | rfl | (simp; done) | (simp [*]; done)), H', ⟨by have := HJ2.out; have := HK2.out; omega⟩, ⟨rch HO_25⟩, ⟨rch HO_109002⟩, ⟨blc⟩, ⟨blc⟩, ⟨bel HB⟩⟩
        ·rw [if_neg c24] at H
         exact absurd H (by simp)
       ·rw [if_neg c23] at H
        exact absurd H (by simp)
      ·rw [if_neg c22] at H
       have c22b0 : decide (x27_2 < (t104.length : Int)) = false := decide_eq_false c22
       clear c22
       simp only [Option.some.injEq, Prod.mk.injEq] at H
       obtain ⟨rfl, rfl, rfl, rfl, rfl⟩ := H
       have hnb26 := NB108_101.out
       have hnc26 := NB101_108.out
       have hcz27_0 : wr.cell? ⟨gb108, 0, none⟩ = some (.int .i64 t102) := (blk_cell BK108.out 0).trans rfl
       have hcz27_1 : wr.cell? ⟨gb108, 1, none⟩ = some (.int .i64 t103) := (blk_cell BK108.out 1).trans rfl
       have hcz27_2 : wr.cell? ⟨gb108, 2, none⟩ = some (.slice Ao9 t104.length co9) := (blk_cell BK108.out 2).trans rfl
       have hfz27_0 := blk_frozen BK108.out 0
       have hfz27_1 := blk_frozen BK108.out 1
       have hfz27_2 := blk_frozen BK108.out 2
       have hcz28_0 : wr.cell? ⟨gb101, 0, none⟩ = some (.int .i64 0) := (blk_cell BK101.out 0).trans rfl
       have hcz28_1 : wr.cell? ⟨gb101, 1, none⟩ = some (.int .i64 0) := (blk_cell BK101.out 1).trans rfl
       have hcz28_2 : wr.cell? ⟨gb101, 2, none⟩ = some (.slice none 0 0) := (blk_cell BK101.out 2).trans rfl
       have hfz28_0 := blk_frozen BK101.out 0
       have hfz28_1 := blk_frozen BK101.out 1
       have hfz28_2 := blk_frozen BK101.out 2
       go_wp2
       refine bodyPost_ret (results_ctt rfl _ _ gb101 37 #[.int .i64 t102, .int .i64 t103, .slice Ao9 t104.length co9] (0, 0) _ rfl (by (with_reducible repeat (first | refine blk_drewN ?_ _ | refine blk_drew ?_ | refine blk_alloc ?_ _)); refine blk_put (cs := #[.int .i64 t102, .int .i64 t103, .slice none 0 0]) ?_ 2 _ rfl; (with_reducible repeat (first | refine blk_drewN ?_ _ | refine blk_drew ?_ | refine blk_alloc ?_ _)); refine blk_put (cs := #[.int .i64 t102, .int .i64 0, .slice none 0 0]) ?_ 1 _ rfl; (with_reducible repeat (first | refine blk_drewN ?_ _ | refine blk_drew ?_ | refine blk_alloc ?_ _)); refine blk_put (cs := #[.int .i64 0, .int .i64 0, .slice none 0 0]) ?_ 0 _ rfl; exact blc) Tryd.underlying37 rfl (by kernel_rfl)) rfl ?_
       exact ⟨_, by first | rfl | (simp [errW_none, errW_some] <;> rfl) | (simp [*, errW_none, errW_some] <;> rfl), by (with_reducible repeat (first | apply Kd.R_alloc | apply Kd.R_drewN | apply Kd.R_drew)); exact Kd.R_mono (Kd.R_far (p := ⟨gb101, 2, none⟩) (Kd.R_far (p := ⟨gb101, 1, none⟩) (Kd.R_far (p := ⟨gb101, 0, none⟩) (Kd.R_types HO_109002.out BK101.out (by decide)) (fun _ hk => hk.2) (.int .i64 t102)) (fun _ hk => hk.2) (.int .i64 t103)) (fun _ hk => hk.2) (.slice Ao9 t104.length co9)) (fun _ hk => trivial), bel HB⟩
end Go.Proofs.YtohfcmhidjaohaaDoor.Q
end
section
namespace Go.Proofs.YtohfcmhidjaohaaDoor.Q
open Go.RowKit Go.Proofs.YtohfcmhidjaohaaDoorW.PrintWords Go.Proofs.YtohfcmhidjaohaaDoorW.PrintLast Go.Proofs.YtohfcmhidjaohaaDoorW.PrintMore
attribute [local go_sem] max2_int min2_int max_two min_two max_three min_three max_four min_four
set_option linter.unusedVariables false
set_option linter.unusedSimpArgs false
def impl_isEmptied.f (k : Nat) (a0 : ByteArray) : Option (Bool) := (impl_IsTray.f k a0).bind fun t101 => (if t101 = true then ((strings_Trim.f a0 (⟨#[35, 46, 47]⟩ : ByteArray)).bind fun t102 => (some (t102.toList == ([] : List UInt8)))) else (some false))
set_option maxHeartbeats 8000000 in
set_option maxRecDepth 100000 in
theorem impl_isEmptied.calls (k : Nat) (a0 : ByteArray) (r : Bool) (w : World) (hG : GoodW w) (h : impl_isEmptied.f k a0 = some r) :
  Calls Tryd.prog 37 #[.string a0] w fun e w' => e = .returned (.bool r) ∧ Below w.heap.size w w' := by
 have HG := Aside0.mk hG
 clear hG
 have HB := Aside0.mk (Below.refl w.heap.size w)
 have H : ((impl_IsTray.f k a0).bind fun t101 => (if t101 = true then ((strings_Trim.f a0 (⟨#[35, 46, 47]⟩ : ByteArray)).bind fun t102 => (some (t102.toList == ([] : List UInt8)))) else (some false))) = some r := h
 clear h
 replace H := Option.bind_eq_some_iff.mp H
 obtain ⟨t101, A20, H⟩ := H
 replace H : (if t101 = true then ((strings_Trim.f a0 (⟨#[35, 46, 47]⟩ : ByteArray)).bind fun t102 => (some (t102.toList == ([] : List UInt8)))) else (some false)) = some r := H
 have A2 := Aside0.mk A20
 clear A20
 by_cases c3 : t101 = true
 ·subst c3
  have H1 : ((strings_Trim.f a0 (⟨#[35, 46, 47]⟩ : ByteArray)).bind fun t102 => (some (t102.toList == ([] : List UInt8)))) = some r := by rw [if_pos rfl] at H; exact H
  clear H
  have H := H1
  clear H1
  replace H := Option.bind_eq_some_iff.mp H
  obtain ⟨t102, A40, H⟩ := H
  replace H : (some (t102.toList == ([] : List UInt8))) = some r := H
  have A4 := Aside0.mk A40
  clear A40
  obtain rfl := Option.some.inj H
  go_enter Tryd.func37, Tryd.ntmps37
  go_wp2_with (first | ((with_reducible refine gate_callee (f := 46) rfl ?_); refine gcall (some 4) Tryd.func46 #[.string a0] rfl ?_; (with_reducible refine (impl_IsTray.calls k a0 true _ ?side1 A2.out).mono ?_); (case side1 => (refine GoodW.below HG.out ?_); exact bel HB); rintro e w5 ⟨rfl, hb⟩; refine ⟨_, rfl, ?_⟩; have n0_ := Aside0.mk (below_step (bel HB) hb); clear HB; have HB := n0_; clear n0_; (try clear hb); (try clear hb2); (try clear hk); (try clear hi)) | (go_at_call 61; (with_reducible refine (strings_Trim.calls a0 (⟨#[35, 46, 47]⟩ : ByteArray) t102 _ A4.out).mono ?_); rintro e w6 ⟨rfl, hb⟩; have n0_ := Aside0.mk (below_step (bel HB) hb); clear HB; have HB := n0_; clear n0_; (try clear hb); (try clear hb2); (try clear hk); (try clear hi)))
  go_ret
  exact ⟨by first | rfl | (simp [errW_none, errW_some] <;> rfl) | (simp [*, errW_none, errW_some] <;> rfl), bel HB⟩
 ·replace c3 := Bool.eq_false_iff.mpr c3
  subst c3
  have H1 : (some false) = some r := by rw [if_neg (show ¬ (false = true) by decide)] at H; exact H
  clear H
  have H := H1
  clear H1
  obtain rfl := Option.some.inj H
  go_enter Tryd.func37, Tryd.ntmps37
  go_wp2_with (first | ((with_reducible refine gate_callee (f := 46) rfl ?_); refine gcall (some 4) Tryd.func46 #[.string a0] rfl ?_; (with_reducible refine (impl_IsTray.calls k a0 false _ ?side1 A2.out).mono ?_); (case side1 => (refine GoodW.below HG.out ?_); exact bel HB); rintro e w7 ⟨rfl, hb⟩; refine ⟨_, rfl, ?_⟩; have n0_ := Aside0.mk (below_step (bel HB) hb); clear HB; have HB := n0_; clear n0_; (try clear hb); (try clear hb2); (try clear hk); (try clear hi)))
  go_ret
  exact ⟨by first | rfl | (simp [errW_none, errW_some] <;> rfl) | (simp [*, errW_none, errW_some] <;> rfl), bel HB⟩
end Go.Proofs.YtohfcmhidjaohaaDoor.Q
end
section
namespace Go.Proofs.YtohfcmhidjaohaaDoor.Q
open Go.RowKit Go.Shelf Go.Proofs.YtohfcmhidjaohaaDoorW.PrintWords Go.Proofs.YtohfcmhidjaohaaDoorW.PrintLast Go.Proofs.YtohfcmhidjaohaaDoorW.PrintMore
set_option linter.unusedSectionVars false
def noB (cs : List Int) : Bool := cs.all fun c => !isB c
theorem noB_balls (cs : List Int) : noB cs = decide ((ballsOf cs).length = 0) := by
 unfold noB ballsOf ballsTo
 rw [List.length_map, ← List.countP_eq_length_filter, Bool.eq_iff_iff, decide_eq_true_iff, List.countP_eq_zero, List.all_eq_true]
 constructor
 ·intro h j hj
  have hj := List.mem_range.1 hj
  have := h _ (List.getElem_mem hj)
  unfold bI
  rw [rd_nat cs j hj]
  simpa using this
 ·intro h c hc
  obtain ⟨j, hj, rfl⟩ := List.getElem_of_mem hc
  have := h j (List.mem_range.2 hj)
  unfold bI at this
  rw [rd_nat cs j hj] at this
  simpa using this
theorem bare_l0 (cs : List Int) (hc : cs.length ≤ 36) (w h : Int) : ∀ (m t : Nat), t + m = cs.length → Ev (fun k => spec_cnBare.l0 k (((cs.take t).count 46 : Nat) : Int) cs (cs.length : Int) (t : Int) w h cs) (w, h, cs, ((cs.count 46 : Nat) : Int), true)
 | 0, t, ht => by
  obtain rfl : t = cs.length := by omega
  refine Ev.step (Ev.const rfl) fun k => ?_
  rw [spec_cnBare.l0, if_neg (by omega), List.take_length]
 | m + 1, t, ht => by
  have ih := bare_l0 cs hc w h m (t + 1) (by omega)
  have hwt : wrap64 ((t : Int) + 1) = ((t + 1 : Nat) : Int) := by rw [w64 (by omega) (by omega)]; omega
  have hlt : t < cs.length := by omega
  have hcnt : (cs.take t).count 46 ≤ t := Nat.le_trans List.count_le_length (by rw [List.length_take]; omega)
  rw [List.take_succ_eq_append_getElem hlt, List.count_append, List.count_singleton] at ih
  refine Ev.step ih fun k => ?_
  rw [spec_cnBare.l0, if_pos (by omega), if_pos (by omega), if_pos (by omega), hwt, rd_nat cs t hlt]
  by_cases h4 : cs[t] = 46
  ·rw [if_pos h4, h4, w64 (by omega) (by omega)]
   rfl
  ·rw [if_neg h4]
   simp [h4]
theorem cnBare_ev (t : ByteArray) : Ev (fun k => spec_cnBare.f k t) (match trayOf t with | none => (0, 0, [], 0, false) | some (w, h, cs) => if noB cs = true then (w, h, cs, ((cs.count 46 : Nat) : Int), true) else (w, h, cs, 0, false)) := by
 refine Ev.bind (f := fun k (bt102 : Int × Int × List Int × Bool) => (if bt102.2.2.2 = true then ((spec_tyBalls.f k bt102.1 bt102.2.1 bt102.2.2.1).bind fun t109 => (spec_cnBare.j0 k (decide ((t109.length : Int) > 0)) bt102.1 bt102.2.1 bt102.2.2.1)) else (spec_cnBare.j0 k true bt102.1 bt102.2.1 bt102.2.2.1))) (tyRead_ev t) ?_
 rcases ht : trayOf t with _ | ⟨w, h, cs⟩
 ·refine Ev.congr (g' := fun k => spec_cnBare.j0 k true 0 0 []) (Ev.step (Ev.const rfl) fun k => ?_) fun k => if_neg (by decide)
  rw [spec_cnBare.j0, if_pos rfl]
 ·have hl : cs.length ≤ 36 := form_len ht
  refine Ev.congr (Ev.bind (f := fun k t109 => spec_cnBare.j0 k (decide ((t109.length : Int) > 0)) w h cs) (tyBalls_ev cs hl w h) ?_) fun k => if_pos rfl
  show Ev _ (if noB cs = true then _ else _)
  by_cases hb : noB cs = true
  ·rw [if_pos hb]
   rw [noB_balls, decide_eq_true_iff] at hb
   have h0 := bare_l0 cs hl w h cs.length 0 (by omega)
   rw [List.take_zero, List.count_nil] at h0
   refine Ev.step h0 fun k => ?_
   rw [spec_cnBare.j0, hb, if_neg (by decide)]
   rfl
  ·rw [if_neg hb]
   rw [noB_balls, decide_eq_true_iff] at hb
   refine Ev.step (Ev.const rfl) fun k => ?_
   rw [spec_cnBare.j0, if_pos (decide_eq_true (by omega))]
theorem bare_set : ∀ n : Fin 256, (isCellB (UInt8.ofNat n.val) = true) → (([35, 46, 47] : List UInt8).contains (UInt8.ofNat n.val) = !isB (n.val : Int)) := by decide +kernel
theorem bare_byte (b : UInt8) (h : isCellB b = true) : ([35, 46, 47] : List UInt8).contains b = !isB (b.toNat : Int) := by
 have h2 := bare_set ⟨b.toNat, b.toNat_lt⟩
 simpa using h2 (by simpa using h)
theorem isEmptied_ev (t : ByteArray) (hs : t.size ≤ 1048576) : Ev (fun k => impl_isEmptied.f k t) (match trayOf t with | none => false | some (_, _, cs) => noB cs) := by
 refine Ev.bind (f := fun _ (t101 : Bool) => (if t101 = true then ((strings_Trim.f t (⟨#[35, 46, 47]⟩ : ByteArray)).bind fun t102 => (some (t102.toList == ([] : List UInt8)))) else (some false))) (isTray_ev t hs) ?_
 rcases ht : trayOf t with _ | ⟨w, h, cs⟩
 ·exact Ev.congr (Ev.const rfl) fun k => if_neg (by simp)
 ·obtain ⟨r, hr, hr2⟩ := trim_tell t ⟨#[35, 46, 47]⟩ hs (by decide) (by decide)
  refine Ev.congr (Ev.const (o := some (r.toList == ([] : List UInt8))) ?_) fun k => by rw [if_pos (show (some (w, h, cs)).isSome = true from rfl), hr]; rfl
  congr 1
  show _ = noB cs
  have hk : okRows (rows 47 t.data.toList) ∧ cs = ints (rows 47 t.data.toList).flatten := by
   unfold trayOf trayRows at ht
   split at ht
   ·rename_i hk
    have h1 := Option.some.inj ht
    exact ⟨hk, (congrArg (fun z => z.2.2) h1).symm⟩
   ·cases ht
  obtain ⟨hk, rfl⟩ := hk
  have hcell : ∀ b ∈ (rows 47 t.data.toList).flatten, isCellB b = true := fun b hb => by
   obtain ⟨row, h1, h2⟩ := List.mem_flatten.1 hb
   exact List.all_eq_true.1 (hk.2.1 row h1).2 b h2
  rw [Bool.eq_iff_iff, beq_iff_eq, hr2]
  unfold noB ints
  rw [List.all_map, List.all_eq_true]
  constructor
  ·intro h1 b hb
   have h2 := h1 b ((rows_mem 47 b _).1 hb).1
   have h3 := bare_byte b (hcell b hb)
   show (!isB (b.toNat : Int)) = true
   rw [← h3]
   exact h2
  ·intro h1 b hb
   by_cases h47 : b = 47
   ·subst h47
    decide
   ·have h4 := (rows_mem 47 b t.data.toList).2 ⟨hb, h47⟩
    have h3 := bare_byte b (hcell b h4)
    show ([35, 46, 47] : List UInt8).contains b = true
    rw [h3]
    exact h1 b h4
end Go.Proofs.YtohfcmhidjaohaaDoor.Q
end
section
namespace Go.Proofs.YtohfcmhidjaohaaDoor.Q
set_option linter.unusedSectionVars false
open Go.RowKit Go.Proofs.YtohfcmhidjaohaaDoorW.PrintWords Go.Proofs.YtohfcmhidjaohaaDoorW.PrintLast Go.Proofs.YtohfcmhidjaohaaDoorW.PrintMore
theorem dirI_nat {s : ByteArray} (h : 0 ≤ dirI s) : ∃ d : Nat, d < 4 ∧ dirI s = d ∧ s = ⟨#[dirB d]⟩ := by
 rcases dirI_cases s with ⟨e, _⟩ | ⟨d, hd4, e, e2⟩
 ·omega
 ·exact ⟨d, hd4, e, one_byte_of e2⟩
theorem bt_dir : ∀ d : Fin 4, (0 : Int) < ((⟨#[dirB d.val]⟩ : ByteArray).size : Int) ∧ bt (⟨#[dirB d.val]⟩ : ByteArray) 0 = dirC d.val := by decide
end Go.Proofs.YtohfcmhidjaohaaDoor.Q
end
