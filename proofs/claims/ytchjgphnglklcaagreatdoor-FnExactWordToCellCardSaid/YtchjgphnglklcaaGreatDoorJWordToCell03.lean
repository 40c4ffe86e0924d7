/- Texts of this claim, joined. -/
import Derived.Test.YtchjgphnglklcaaGreatDoorJWordToCell01
import Derived.Test.YtchjgphnglklcaaGreatDoorJWordToCell02
import Derived.WalkKit
import Derived.Laws.AppendOwn
import Derived.Shelf.SlicesE.Clone
import Derived.Maps.OwnOps
import Derived.Maps.OwnSet
import Derived.Maps.Views
import Derived.Maps.RangeWalk
import Derived.Carry
set_option linter.unusedVariables false
set_option linter.unusedSimpArgs false
set_option linter.unusedSectionVars false
section
namespace Go.Proofs.YtchjgphnglklcaaGreatDoor.Q
open Go.RowKit Go.Shelf Go.Proofs.YtchjgphnglklcaaGreatDoorW.PrintWords Go.Proofs.YtchjgphnglklcaaGreatDoorW.PrintLast Go.Proofs.YtchjgphnglklcaaGreatDoorW.PrintMore
set_option linter.unusedSectionVars false
theorem fold_min : ∀ (l : List Int) (a : Int), (l.foldl min a = a ∨ l.foldl min a ∈ l) ∧ l.foldl min a ≤ a ∧ ∀ x ∈ l, l.foldl min a ≤ x
 | [], a => ⟨.inl rfl, Int.le_refl _, fun _ hx => by cases hx⟩
 | y :: l, a => by
  obtain ⟨h1, h2, h3⟩ := fold_min l (min a y)
  rw [List.foldl_cons]
  refine ⟨?_, by omega, fun x hx => ?_⟩
  ·rcases h1 with h1 | h1
   ·rw [h1]
    by_cases h : a ≤ y
    ·left
     omega
    ·right
     rw [show min a y = y by omega]
     exact List.mem_cons_self
   ·exact .inr (List.mem_cons_of_mem _ h1)
  ·rcases List.mem_cons.1 hx with rfl | hx
   ·omega
   ·exact h3 x hx
theorem minOf_cons (x : Int) (l : List Int) : Lib.minOf (x :: l) = l.foldl min x := by
 unfold Lib.minOf
 rw [List.headD_cons, List.foldl_cons, show min x x = x by omega]
theorem minOf_mem (s : List Int) (h : s ≠ []) : Lib.minOf s ∈ s := by
 cases s with
 | nil => exact absurd rfl h
 | cons x l =>
  rw [minOf_cons]
  rcases (fold_min l x).1 with h1 | h1
  ·rw [h1]
   exact List.mem_cons_self
  ·exact List.mem_cons_of_mem _ h1
theorem mins_nodup {L : List (List Int)} (hf : L.flatten.Nodup) (hn : ∀ s ∈ L, s ≠ []) : (L.map Lib.minOf).Nodup := by
 refine List.pairwise_map.2 (List.Pairwise.imp_of_mem (fun {a b} ha hb hne e => hne ?_) (nodup_of_flat L hf hn))
 exact flat_inj L hf a b (Lib.minOf a) ha hb (minOf_mem a (hn a ha)) (by rw [e]; exact minOf_mem b (hn b hb))
theorem sortable_of {L : List (List Int)} (hl : L.length ≤ 1000) (hf : L.flatten.Nodup) (hn : ∀ s ∈ L, s ≠ []) (hb : ∀ s ∈ L, s.length ≤ 1000 ∧ ∀ x ∈ s, 0 ≤ x ∧ x ≤ 1000000) : sortable L = true := by
 unfold sortable
 rw [Bool.and_eq_true, Bool.and_eq_true, List.all_eq_true]
 refine ⟨⟨decide_eq_true hl, fun s hs => ?_⟩, decide_eq_true (mins_nodup hf hn)⟩
 have h1 := List.length_pos_iff.2 (hn s hs);have h2 := (hb s hs).2 _ (minOf_mem s (hn s hs))
 simp only [Bool.and_eq_true, decide_eq_true_eq]
 exact ⟨⟨⟨h1, (hb s hs).1⟩, h2.1⟩, h2.2⟩
theorem cutA_len (cs : List Int) : ∀ (l own : List Int), (cutA cs l own).length ≤ l.length + 1
 | [], own => by
  unfold cutA
  split <;> simp
 | k :: l, own => by
  unfold cutA
  split
  ·split
   ·have := cutA_len cs l []
    simp only [List.length_cons]
    omega
   ·have := cutA_len cs l []
    simp only [List.length_cons]
    omega
  ·have := cutA_len cs l (own ++ [k])
   simp only [List.length_cons]
   omega
theorem rdS_drop {L : List (List Int)} {u : Nat} {x : List Int} {l : List (List Int)} (h : L.drop u = x :: l) : u < L.length ∧ rdS L (u : Int) = x ∧ L.drop (u + 1) = l := by
 have hu : u < L.length := by
  rcases Nat.lt_or_ge u L.length with h1 | h1
  ·exact h1
  ·rw [List.drop_eq_nil_of_le h1] at h
   cases h
 rw [List.drop_eq_getElem_cons hu] at h
 injection h with h1 h2
 refine ⟨hu, ?_, h2⟩
 unfold rdS
 rw [Int.toNat_natCast, List.getD_eq_getElem?_getD, List.getElem?_eq_getElem hu]
 exact h1
theorem str_l1 (cs : List Int) (w h n i : Int) (P : List (List Int)) (L : List Int) (r : List (List Int)) : ∀ (l : List Int) (u : Nat) (out : List (List Int)) (own : List Int), L.drop u = l → (∀ x ∈ l, 0 ≤ x ∧ x < (cs.length : Int)) → own.length + l.length ≤ 1000 → out.length + l.length ≤ 1000 → u + l.length ≤ 1000 → u ≤ L.length →
  Ev (fun k => impl_tray_stretches.l0 k (out ++ cutA cs l own) P n (wrap64 (i + 1)) w h cs) r → Ev (fun k => impl_tray_stretches.l1 k out own P n i L (L.length : Int) (u : Int) w h cs) r
 | [], u, out, own, hd, _, _, ho, _, hu, hE => by
  have hL : u = L.length := by
   have := congrArg List.length hd
   simp at this
   omega
  subst hL
  refine Ev.step hE fun k => ?_
  simp only [impl_tray_stretches.l1]
  rw [if_neg (by omega)]
  unfold cutA
  by_cases hz : own = []
  ·subst hz
   rw [if_neg (by simp), if_pos rfl, List.append_nil]
  ·have := List.length_pos_iff.2 hz
   rw [if_pos (by omega), if_pos (by simp at ho; omega), if_neg hz]
 | x :: l, u, out, own, hd, hx, hw, ho, hq, hu, hE => by
  obtain ⟨h1, h2, h3⟩ := rd_drop hd;obtain ⟨x0, x1⟩ := hx x List.mem_cons_self
  have hx' : ∀ y ∈ l, 0 ≤ y ∧ y < (cs.length : Int) := fun y hy => hx y (List.mem_cons_of_mem _ hy)
  simp only [List.length_cons] at hw ho hq
  unfold cutA at hE
  by_cases h35 : rd cs x = 35
  ·rw [if_pos h35] at hE
   by_cases hz : own = []
   ·rw [if_pos hz] at hE
    subst hz
    refine Ev.step (str_l1 cs w h n i P L r l (u + 1) out [] h3 hx' (by simp; omega) (by omega) (by omega) h1 hE) fun k => ?_
    simp only [impl_tray_stretches.l1]
    rw [if_pos (by omega), if_pos (by omega), if_pos (by omega), h2, if_pos x0, if_pos x1, if_pos h35, if_neg (by simp), wr1 u (by omega)]
   ·rw [if_neg hz] at hE
    have := List.length_pos_iff.2 hz
    refine Ev.step (str_l1 cs w h n i P L r l (u + 1) (out ++ [own]) [] h3 hx' (by simp; omega) (by simp; omega) (by omega) h1 (by rw [List.append_assoc]; exact hE)) fun k => ?_
    simp only [impl_tray_stretches.l1]
    rw [if_pos (by omega), if_pos (by omega), if_pos (by omega), h2, if_pos x0, if_pos x1, if_pos h35, if_pos (by omega), if_pos (by omega), wr1 u (by omega)]
  ·rw [if_neg h35] at hE
   refine Ev.step (str_l1 cs w h n i P L r l (u + 1) out (own ++ [x]) h3 hx' (by simp; omega) (by omega) (by omega) h1 hE) fun k => ?_
   simp only [impl_tray_stretches.l1]
   rw [if_pos (by omega), if_pos (by omega), if_pos (by omega), h2, if_pos x0, if_pos x1, if_neg h35, if_pos (by omega), wr1 u (by omega)]
theorem str_l0 (cs : List Int) (w h : Int) (P : List (List Int)) : ∀ (Ls : List (List Int)) (i : Nat) (out : List (List Int)), P.drop i = Ls → (∀ l ∈ Ls, l.length ≤ 7 ∧ ∀ x ∈ l, 0 ≤ x ∧ x < (cs.length : Int)) → out.length + 8 * Ls.length ≤ 900 → i ≤ P.length → i + Ls.length ≤ 100 →
  ∀ r, slices_SortFunc_str.f (out ++ Ls.flatMap fun l => cutA cs l []) = some r → Ev (fun k => impl_tray_stretches.l0 k out P (P.length : Int) (i : Int) w h cs) r
 | [], i, out, hd, _, _, hi, _, r, hE => by
  have hL : i = P.length := by
   have := congrArg List.length hd
   simp at this
   omega
  subst hL
  refine Ev.step (Ev.const hE) fun k => ?_
  simp only [impl_tray_stretches.l0]
  rw [if_neg (by omega), List.flatMap_nil, List.append_nil]
 | l :: Ls, i, out, hd, hb, hl, hi, hq, r, hE => by
  obtain ⟨h1, h2, h3⟩ := rdS_drop hd;obtain ⟨b1, b2⟩ := hb l List.mem_cons_self;have hcl := cutA_len cs l []
  simp only [List.length_cons] at hl hq
  rw [List.flatMap_cons, ← List.append_assoc] at hE
  have h5 := str_l0 cs w h P Ls (i + 1) (out ++ cutA cs l []) h3 (fun y hy => hb y (List.mem_cons_of_mem _ hy)) (by simp only [List.length_append]; omega) h1 (by omega) r hE
  rw [← wr1 i (by omega)] at h5
  refine Ev.step (str_l1 cs w h P.length i P l r l 0 out [] rfl b2 (by simp; omega) (by omega) (by omega) (Nat.zero_le _) h5) fun k => ?_
  simp only [impl_tray_stretches.l0]
  rw [if_pos (by omega), if_pos (by omega), if_pos (by omega), h2]
  rfl
def strL (w h : Nat) (cs : List Int) (d : Nat) : List (List Int) := (cutsL w h cs d).mergeSort leM
section
variable {w h : Nat} {cs : List Int} (hw : w ≤ 7) (hh : h ≤ 7) (hs : w * h ≤ 36) {d : Nat} (hd : d < 4)
include hw hh hs hd
theorem lines_many : (linesL w h (dirC d)).length ≤ 7 := by
 unfold linesL manyL
 rw [List.length_map, List.length_range]
 split <;> omega
theorem lines_in (hn : cs.length = w * h) : ∀ l ∈ linesL w h (dirC d), l.length ≤ 7 ∧ ∀ x ∈ l, 0 ≤ x ∧ x < (cs.length : Int) := fun l hl =>
 ⟨line_len hw hh hs hd hl, by rw [hn]; exact mem_chain hw hh hs hd l (-1) ((lines_ok hw hh hs hd).2.2 l hl)⟩
theorem cuts_in (hn : cs.length = w * h) : ∀ s ∈ cutsL w h cs d, s.length ≤ 1000 ∧ ∀ x ∈ s, 0 ≤ x ∧ x < ((w * h : Nat) : Int) := by
 intro s hm;obtain ⟨l, hl, hsl⟩ := List.mem_flatMap.1 hm;obtain ⟨h1, h2⟩ := lines_in hw hh hs hd hn l hl
 have hsub : ∀ x ∈ s, x ∈ l := fun x hx => by
  have := List.mem_flatten.2 ⟨s, hsl, hx⟩
  rw [cutA_flat, List.nil_append] at this
  exact (List.mem_filter.1 this).1
 refine ⟨?_, fun x hx => by rw [← hn]; exact h2 x (hsub x hx)⟩
 obtain ⟨_, _, p, q, e, _⟩ := (cutA_split cs l [] (fun _ hx => by cases hx) s).1 hsl;have := congrArg List.length e
 simp only [List.nil_append, List.length_append] at this
 omega
theorem cuts_many : (cutsL w h cs d).length ≤ 56 := by
 have key : ∀ Ls : List (List Int), (∀ l ∈ Ls, l.length ≤ 7) → (Ls.flatMap fun l => cutA cs l []).length ≤ 8 * Ls.length := by
  intro Ls
  induction Ls with
  | nil => intro _; simp
  | cons l Ls ih =>
   intro hb;have h1 := hb l List.mem_cons_self
   have h2 := ih fun y hy => hb y (List.mem_cons_of_mem _ hy)
   have h3 := cutA_len cs l []
   rw [List.flatMap_cons, List.length_append, List.length_cons]
   omega
 have h1 := key (linesL w h (dirC d)) fun l hl => line_len hw hh hs hd hl
 have h2 := lines_many hw hh hs hd;unfold cutsL
 omega
theorem cuts_sortable (hn : cs.length = w * h) : sortable (cutsL w h cs d) = true := by
 refine sortable_of (by have := cuts_many hw hh hs hd (cs := cs); omega) (cuts_nodup hw hh hs hd) (cuts_ne hw hh hs hd) fun s hm => ?_
 obtain ⟨h1, h2⟩ := cuts_in hw hh hs hd hn s hm
 exact ⟨h1, fun x hx => by have := h2 x hx; omega⟩
theorem stretches_ev (hw0 : 0 < w) (hh0 : 0 < h) (hn : cs.length = w * h) : Ev (fun k => impl_tray_stretches.f k w h cs (dirC d)) (strL w h cs d) := by
 unfold impl_tray_stretches.f
 refine Ev.bind (lines_ev hw hh hs hw0 hh0 hd cs) ?_
 have h1 := lines_many hw hh hs hd
 refine str_l0 cs w h (linesL w h (dirC d)) (linesL w h (dirC d)) 0 [] rfl (lines_in hw hh hs hd hn) (by simp; omega) (Nat.zero_le _) (by omega) _ ?_
 rw [List.nil_append]
 exact if_pos (cuts_sortable hw hh hs hd hn)
end
end Go.Proofs.YtchjgphnglklcaaGreatDoor.Q
end
section
namespace Go.Proofs.YtchjgphnglklcaaGreatDoor.Q
open Go.RowKit Go.Proofs.YtchjgphnglklcaaGreatDoorW.PrintWords Go.Proofs.YtchjgphnglklcaaGreatDoorW.PrintLast Go.Proofs.YtchjgphnglklcaaGreatDoorW.PrintMore
attribute [local go_sem] max2_int min2_int max_two min_two max_three min_three max_four min_four
set_option linter.unusedVariables false
set_option linter.unusedSimpArgs false
def spec_l1Least.f (a0 : Int) (a1 : Int) : Option (Int) := if a0 < a1 then (some a0) else (some a1)
set_option maxHeartbeats 8000000 in
set_option maxRecDepth 100000 in
theorem spec_l1Least.calls (a0 : Int) (a1 : Int) (r : Int) (w : World) (h : spec_l1Least.f a0 a1 = some r) :
  Calls Tryz.prog 104 #[.int .i64 a0, .int .i64 a1] w fun e w' => e = .returned (.int .i64 r) ∧ Drawn0 w w' := by
 have H : (if a0 < a1 then (some a0) else (some a1)) = some r := h;clear h
 by_cases c3 : a0 < a1
 ·rw [if_pos c3] at H
  have c3b0 : decide (a0 < a1) = true := decide_eq_true c3;clear c3;obtain rfl := Option.some.inj H
  go_enter Tryz.func104, Tryz.ntmps104
  go_wp2
  go_ret
  exact ⟨by first | rfl | (simp; done) | (simp [*]; done), by repeat (first | exact Drawn0.refl _ | apply Drawn0.step)⟩
 ·rw [if_neg c3] at H
  have c3b0 : decide (a0 < a1) = false := decide_eq_false c3;clear c3;obtain rfl := Option.some.inj H
  go_enter Tryz.func104, Tryz.ntmps104
  go_wp2
  go_ret
  exact ⟨by first | rfl | (simp; done) | (simp [*]; done), by repeat (first | exact Drawn0.refl _ | apply Drawn0.step)⟩
def spec_tiFirst.l0 : Nat → Int → List Int → Int → Int → Option (Int)
 | 0, _, _, _, _ => none
 | k + 1, x3, x9, x10, x11 => if x11 < x10 then (if 0 ≤ x11 then (if x11 < (x9.length : Int) then ((spec_l1Least.f x3 (rd x9 x11)).bind fun t103 => (spec_tiFirst.l0 k t103 x9 x10 (wrap64 (x11 + 1)))) else (none)) else (none)) else (some x3)
def spec_tiFirst.f (k : Nat) (l0 : List Int) : Option (Int) := if 0 < (l0.length : Int) then (spec_tiFirst.l0 k (rd l0 0) l0 (l0.length : Int) 0) else (none)
set_option maxHeartbeats 8000000 in
set_option maxRecDepth 100000 in
theorem spec_tiFirst.calls (k : Nat) (A0 : Option Addr) (c0 : Nat) (l0 : List Int) (r : Int) (w : World) (hr0 : Kd.C (Kd.int .i64) w A0 l0.length l0) (hc0 : l0.length ≤ c0) (h : spec_tiFirst.f k l0 = some r) :
  Calls Tryz.prog 88 #[.slice A0 l0.length c0] w fun e w' => e = .returned (.int .i64 r) ∧ Drawn0 w w' := by
 have HR0 := Aside0.mk hr0;have HC0 := Aside0.mk hc0;clear hr0 hc0;have H : (if 0 < (l0.length : Int) then (spec_tiFirst.l0 k (rd l0 0) l0 (l0.length : Int) 0) else (none)) = some r := h;clear h
 by_cases c2 : 0 < (l0.length : Int)
 ·rw [if_pos c2] at H
  have c2b0 : decide (0 < (l0.length : Int)) = true := decide_eq_true c2;have c2b1 : decide (0 < l0.length) = true := decide_eq_true (by omega);clear c2;have H' := Aside0.mk H;clear H;have p101 : 0 ≤ (0 : Int) := (by omega);have q101 : 0 < (l0.length : Int) := of_decide_eq_true (by first | (with_reducible assumption) | assumption);obtain ⟨ad101, e101, hx101_0⟩ := Kd.at_int HR0.out 0 p101 q101
  cases e101
  have qi101 : (0 < l0.length) = True := eq_true (by omega)
  (try rw [show ((0 : Int)).toNat = 0 from rfl] at hx101_0)
  (try rw [Addr.add_zero'] at hx101_0)
  replace p101 := eq_true p101;replace q101 := eq_true q101
  go_enter Tryz.func88, Tryz.ntmps88
  go_wp2
  go_loopg [3, 11] k (fun kq v3 v11 w' => ∃ (x3_1 : Int) (x11_1 : Int), v3 = .int .i64 x3_1 ∧ v11 = .int .i64 x11_1 ∧ Aside0 (spec_tiFirst.l0 kq x3_1 l0 (l0.length : Int) x11_1 = some r) ∧ Aside0 (kq ≤ k) ∧ Drawn0 w w')
  case atStart => exact ⟨(rd l0 0), (0), (by first | rfl | (simp; done) | (simp [*]; done)), (by first | rfl | (simp; done) | (simp [*]; done)), H', ⟨Nat.le_refl _⟩, by repeat (first | exact Drawn0.refl _ | apply Drawn0.step)⟩
  case round =>
   clear H'
   try clear p1
   try clear q1
   try clear hx1
   try clear qi1
   try clear c2
   try clear c2b0
   try clear c2b0y
   try clear c2b1
   try clear p2
   try clear hx101_0
   try clear p101
   try clear q101
   obtain ⟨x3_1, x11_1, rfl, rfl, HA, HK1, ⟨m1, rfl⟩⟩ := hrel
   cases gk with
   | zero => exact absurd HA.out (by simp [spec_tiFirst.l0])
   | succ k1 =>
    have H := HA.out;clear HA
    simp only [spec_tiFirst.l0] at H
    by_cases c3 : x11_1 < (l0.length : Int)
    ·rw [if_pos c3] at H
     have c3b0 : decide (x11_1 < (l0.length : Int)) = true := decide_eq_true c3;clear c3
     by_cases c4 : 0 ≤ x11_1
     ·rw [if_pos c4] at H
      have c4b0 : decide (0 ≤ x11_1) = true := decide_eq_true c4;clear c4
      by_cases c5 : x11_1 < (l0.length : Int)
      ·rw [if_pos c5] at H
       have c5b0 : decide (x11_1 < (l0.length : Int)) = true := decide_eq_true c5;clear c5;replace H := Option.bind_eq_some_iff.mp H;obtain ⟨t103, A60, H⟩ := H;replace H : (spec_tiFirst.l0 k1 t103 l0 (l0.length : Int) (wrap64 (x11_1 + 1))) = some r := H;have A6 := Aside0.mk A60;clear A60;have H' := Aside0.mk H;clear H;have p102 : 0 ≤ (x11_1 : Int) := of_decide_eq_true (by first | (with_reducible assumption) | assumption);have q102 : x11_1 < (l0.length : Int) := of_decide_eq_true (by first | (with_reducible assumption) | assumption);obtain ⟨ad102, e102, hx102_0⟩ := Kd.at_int HR0.out x11_1 p102 q102;obtain rfl : ad101 = ad102 := (by injection e102);replace p102 := eq_true p102;replace q102 := eq_true q102
       go_wp2_with (first | ((with_reducible refine gate_callee (f := 104) rfl ?_); refine gcall (some 17) Tryz.func104 #[.int .i64 x3_1, .int .i64 (rd l0 x11_1)] rfl ?_; (with_reducible refine (spec_l1Least.calls x3_1 (rd l0 x11_1) t103 _ A6.out).mono ?_); rintro e w' ⟨rfl, ⟨nd, rfl⟩⟩; refine ⟨_, rfl, ?_⟩))
       go_roundg k1
       case measure => have := HK1.out; omega
       case rel => exact ⟨(t103), (wrap64 (x11_1 + 1)), (by first | rfl | (simp; done) | (simp [*]; done)), (by first | rfl | (simp; done) | (simp [*]; done)), H', ⟨by have := HK1.out; omega⟩, by repeat (first | exact Drawn0.refl _ | apply Drawn0.step)⟩
      ·rw [if_neg c5] at H
       exact absurd H (by simp)
     ·rw [if_neg c4] at H
      exact absurd H (by simp)
    ·rw [if_neg c3] at H
     have c3b0 : decide (x11_1 < (l0.length : Int)) = false := decide_eq_false c3;clear c3;obtain rfl := Option.some.inj H
     go_wp2
     go_ret
     exact ⟨by first | rfl | (simp; done) | (simp [*]; done), by repeat (first | exact Drawn0.refl _ | apply Drawn0.step)⟩
 ·rw [if_neg c2] at H
  exact absurd H (by simp)
mutual
def spec_tiStretches.l0 : Nat → Int → List (List Int) → List Int → Int → Int → Int → Int → List Int → Option ((List (List Int)))
 | 0, _, _, _, _, _, _, _, _ => none
 | k + 1, x1, x5, x13, x14, x15, x102000, x102001, x102002 => if x15 < x14 then (if 0 ≤ x15 then (if x15 < (x13.length : Int) then (if (rd x13 x15) = 35 then (spec_tiStretches.j1 k x1 x5 x15 x13 x14 x15 true x102000 x102001 x102002) else ((spec_tiAhead.f x102000 x102001 x102002 x15 x1).bind fun t103 => (spec_tiStretches.j1 k x1 x5 x15 x13 x14 x15 (decide (t103 ≥ 0)) x102000 x102001 x102002))) else (none)) else (none)) else (some x5)
def spec_tiStretches.j1 : Nat → Int → List (List Int) → Int → List Int → Int → Int → Bool → Int → Int → List Int → Option ((List (List Int)))
 | 0, _, _, _, _, _, _, _, _, _, _ => none
 | k + 1, x1, x5, x6, x13, x14, x15, x28, x102000, x102001, x102002 => if x28 = true then (spec_tiStretches.l0 k x1 x5 x13 x14 (wrap64 (x15 + 1)) x102000 x102001 x102002) else ((spec_tiAhead.f x102000 x102001 x102002 x6 (Int.tmod (wrap64 (x1 + 2)) 4)).bind fun t107 => (spec_tiStretches.l1 k x1 x5 (([x6] : List Int)) t107 x13 x14 x15 x102000 x102001 x102002))
def spec_tiStretches.l1 : Nat → Int → List (List Int) → List Int → Int → List Int → Int → Int → Int → Int → List Int → Option ((List (List Int)))
 | 0, _, _, _, _, _, _, _, _, _, _ => none
 | k + 1, x1, x5, x8, x9, x13, x14, x15, x102000, x102001, x102002 => if x9 ≥ 0 then (if x8.length < 17592186044416 then ((spec_tiAhead.f x102000 x102001 x102002 x9 (Int.tmod (wrap64 (x1 + 2)) 4)).bind fun t111 => (spec_tiStretches.l1 k x1 x5 (x8 ++ [x9]) t111 x13 x14 x15 x102000 x102001 x102002)) else (none)) else (spec_tiStretches.l2 k x1 x5 x8 0 x13 x14 x15 x102000 x102001 x102002)
def spec_tiStretches.l2 : Nat → Int → List (List Int) → List Int → Int → List Int → Int → Int → Int → Int → List Int → Option ((List (List Int)))
 | 0, _, _, _, _, _, _, _, _, _, _ => none
 | k + 1, x1, x5, x8, x10, x13, x14, x15, x102000, x102001, x102002 => if x10 < (x5.length : Int) then (if 0 ≤ x10 then ((spec_tiFirst.f k (rd_Lii x5 x10)).bind fun t113 => ((spec_tiFirst.f k x8).bind fun t114 => (if t113 < t114 then (spec_tiStretches.l2 k x1 x5 x8 (wrap64 (x10 + 1)) x13 x14 x15 x102000 x102001 x102002) else ((some (([] : List (List Int)) : List (List Int))).bind fun y115 => (if x10 ≤ (x5.length : Int) then ((some (x5.take (x10 : Int).toNat : List (List Int))).bind fun y118 => (if y115.length + y118.length < 5864062014805 then ((some (y115 ++ y118 : List (List Int))).bind fun y123 => (if y123.length < 5864062014805 then ((some (y123 ++ [x8] : List (List Int))).bind fun y126 => ((some (x5.drop (x10 : Int).toNat : List (List Int))).bind fun y129 => (if y126.length + y129.length < 5864062014805 then (spec_tiStretches.l0 k x1 (y126 ++ y129) x13 x14 (wrap64 (x15 + 1)) x102000 x102001 x102002) else (none)))) else (none))) else (none))) else (none)))))) else (none)) else ((some (([] : List (List Int)) : List (List Int))).bind fun y137 => (if 0 ≤ x10 then (if x10 ≤ (x5.length : Int) then ((some (x5.take (x10 : Int).toNat : List (List Int))).bind fun y140 => (if y137.length + y140.length < 5864062014805 then ((some (y137 ++ y140 : List (List Int))).bind fun y145 => (if y145.length < 5864062014805 then ((some (y145 ++ [x8] : List (List Int))).bind fun y148 => ((some (x5.drop (x10 : Int).toNat : List (List Int))).bind fun y151 => (if y148.length + y151.length < 5864062014805 then (spec_tiStretches.l0 k x1 (y148 ++ y151) x13 x14 (wrap64 (x15 + 1)) x102000 x102001 x102002) else (none)))) else (none))) else (none))) else (none)) else (none)))
end
def spec_tiStretches.f (k : Nat) (a0_0 : Int) (a0_1 : Int) (l0_2 : List Int) (a1 : Int) : Option ((List (List Int))) := spec_tiStretches.l0 k a1 ([] : List (List Int)) l0_2 (l0_2.length : Int) 0 a0_0 a0_1 l0_2
set_option maxHeartbeats 8000000 in
set_option maxRecDepth 100000 in
theorem spec_tiStretches.calls (k : Nat) (a0_0 : Int) (a0_1 : Int) (A0_2 : Option Addr) (c0_2 : Nat) (l0_2 : List Int) (a1 : Int) (r : List (List Int)) (w : World) (hr0_2 : Kd.C (Kd.int .u8) w A0_2 l0_2.length l0_2) (hc0_2 : l0_2.length ≤ c0_2) (h : spec_tiStretches.f k a0_0 a0_1 l0_2 a1 = some r) :
  Calls Tryz.prog 71 #[.agg #[.int .i64 a0_0, .int .i64 a0_1, .slice A0_2 l0_2.length c0_2], .int .i64 a1] w fun e w' => ∃ v0_ : Value, e = .returned (v0_) ∧ Kd.N (Kd.slice 3 (Kd.int .i64)) 39 w' w.heap.size (fun k_ => (w.heap.size ≤ k_)) v0_ r ∧ Below w.heap.size w w' := by
 have hu38 := Tryz.underlying38;have HR0_2 := Aside0.mk hr0_2;have HC0_2 := Aside0.mk hc0_2;clear hr0_2 hc0_2;have HB := Aside0.mk (Below.refl w.heap.size w);have H : (spec_tiStretches.l0 k a1 ([] : List (List Int)) l0_2 (l0_2.length : Int) 0 a0_0 a0_1 l0_2) = some r := h;clear h;have H' := Aside0.mk H;clear H
 go_enter Tryz.func71, Tryz.ntmps71
 go_wp2_with (first | ((with_reducible refine gate_dst (N := 2) rfl ?_); refine boxE (N := 2) (cs := #[.int .i64 a0_0, .int .i64 a0_1, .slice A0_2 l0_2.length c0_2]) (t := 38) ?_; intro gb101 hg w3 hbox hb; have n0_ := Aside0.mk (below_step (bel HB) hb); have n1_ := Aside0.mk (hbox); have n2_ := Aside0.mk (gsz hg (bel HB)); have n3_ := Aside0.mk (gsz hg (bel HB)); clear HB; have HB := n0_; have BK101 := n1_; have GW101 := n2_; have GE101 := n3_; clear n0_ n1_ n2_ n3_; clear hb hbox hg; have hcz4_0 : w3.cell? ⟨gb101, 0, none⟩ = some (.int .i64 a0_0) := (blk_cell BK101.out 0).trans rfl; have hcz4_1 : w3.cell? ⟨gb101, 1, none⟩ = some (.int .i64 a0_1) := (blk_cell BK101.out 1).trans rfl; have hcz4_2 : w3.cell? ⟨gb101, 2, none⟩ = some (.slice A0_2 l0_2.length c0_2) := (blk_cell BK101.out 2).trans rfl; have hfz4_0 := blk_frozen BK101.out 0; have hfz4_1 := blk_frozen BK101.out 1; have hfz4_2 := blk_frozen BK101.out 2))
 go_loopg [5, 15] k (fun kq v5 v15 w' => ∃ (x5_1 : List (List Int)) (x15_1 : Int), v15 = .int .i64 x15_1 ∧ Aside0 (spec_tiStretches.l0 kq a1 x5_1 l0_2 (l0_2.length : Int) x15_1 a0_0 a0_1 l0_2 = some r) ∧ Aside0 (kq ≤ k) ∧ Aside0 (Kd.N (Kd.slice 3 (Kd.int .i64)) 39 w' w.heap.size (fun k_ => (w.heap.size ≤ k_) ∧ k_ ≠ gb101) v5 x5_1) ∧ Aside0 (w'.heap[gb101]? = some (.cells #[.int .i64 a0_0, .int .i64 a0_1, (.slice A0_2 l0_2.length c0_2)] 38 (0, 0))) ∧ Aside0 (Below w.heap.size w w'))
 case atStart => exact ⟨(([] : List (List Int))), (0), (by first | rfl | (simp; done) | (simp [*]; done)), H', ⟨Nat.le_refl _⟩, ⟨by first | exact Kd.S_nil _ _ _ _ _ | exact Kd.N_nil _ _ _ _ _ | exact Kd.V_nil _ _ _ _ _ | exact Kd.Q_nil _ _ _ _ _ | exact Kd.R_nil _ _ _ _ _⟩, ⟨blc⟩, ⟨bel HB⟩⟩
 case round =>
  clear H'
  try clear p2
  try clear hcz4_0
  try clear hcz4_1
  try clear hcz4_2
  try clear hfz4_0
  try clear hfz4_1
  try clear hfz4_2
  obtain ⟨x5_1, x15_1, rfl, HA, HK1, HO_5, BK101, HB⟩ := hrel
  cases gk with
  | zero => exact absurd HA.out (by simp [spec_tiStretches.l0])
  | succ k1 =>
   have H := HA.out;clear HA
   simp only [spec_tiStretches.l0] at H
   by_cases c5 : x15_1 < (l0_2.length : Int)
   ·rw [if_pos c5] at H
    have c5b0 : decide (x15_1 < (l0_2.length : Int)) = true := decide_eq_true c5;clear c5
    by_cases c6 : 0 ≤ x15_1
    ·rw [if_pos c6] at H
     have c6b0 : decide (0 ≤ x15_1) = true := decide_eq_true c6;clear c6
     by_cases c7 : x15_1 < (l0_2.length : Int)
     ·rw [if_pos c7] at H
      have c7b0 : decide (x15_1 < (l0_2.length : Int)) = true := decide_eq_true c7;clear c7;have HC8 := Aside0.mk H;clear H;have p102 : 0 ≤ (x15_1 : Int) := of_decide_eq_true (by first | (with_reducible assumption) | assumption);have q102 : x15_1 < (l0_2.length : Int) := of_decide_eq_true (by first | (with_reducible assumption) | assumption);obtain ⟨ad102, e102, hx102_0⟩ := Kd.at_int HR0_2.out x15_1 p102 q102
      cases e102
      (try replace hx102_0 := (HB.out.cell (World.block_lt_of_cell? w _ hx102_0)).trans hx102_0)
      replace p102 := eq_true p102;replace q102 := eq_true q102
      go_upto_region 5 with (fail)
      go_cut [28] (fun v28 wc => ∃ (kq : Nat) (x28_7 : Bool), v28 = .bool x28_7 ∧ Aside0 (spec_tiStretches.j1 kq a1 x5_1 x15_1 l0_2 (l0_2.length : Int) x15_1 x28_7 a0_0 a0_1 l0_2 = some r) ∧ Aside0 (kq ≤ k1) ∧ Aside0 (Kd.N (Kd.slice 3 (Kd.int .i64)) 39 wc w.heap.size (fun k_ => (w.heap.size ≤ k_) ∧ k_ ≠ gb101) u5 x5_1) ∧ Aside0 (wc.heap[gb101]? = some (.cells #[.int .i64 a0_0, .int .i64 a0_1, (.slice (some ad102) l0_2.length c0_2)] 38 (0, 0))) ∧ Aside0 (Below w.heap.size w wc))
      case first =>
       have H := HC8.out;clear HC8
       by_cases c9 : (rd l0_2 x15_1) = 35
       ·rw [if_pos c9] at H
        have c9b0 : ((rd l0_2 x15_1) == 35) = true := beq_iff_eq.mpr c9;have c9b1 : ((rd l0_2 x15_1) != 35) = false := bne_eq_false_iff_eq.mpr c9;clear c9
        (first | rw [c9b0] | (simp only [i64_w, i32_w]; rw [c9b0]) | skip)
        have H' := Aside0.mk H;clear H
        go_wp2
        go_meet
        case rel => exact ⟨_, (true), (by first | rfl | (simp; done) | (simp [*]; done)), H', ⟨by have := HK1.out; first | omega | exact Nat.le_refl _⟩, ⟨by (with_reducible repeat (first | apply Kd.N_alloc | apply Kd.N_drewN | apply Kd.N_drew)); (first | exact HO_5.out | exact R_any HO_5.out)⟩, ⟨blc⟩, ⟨bel HB⟩⟩
       ·rw [if_neg c9] at H
        have c9b0 : ((rd l0_2 x15_1) == 35) = false := beq_eq_false_iff_ne.mpr c9;have c9b1 : ((rd l0_2 x15_1) != 35) = true := bne_iff_ne.mpr c9
        (first | rw [c9b0] | (simp only [i64_w, i32_w]; rw [c9b0]) | skip)
        replace H := Option.bind_eq_some_iff.mp H;obtain ⟨t103, A100, H⟩ := H;replace H : (spec_tiStretches.j1 k1 a1 x5_1 x15_1 l0_2 (l0_2.length : Int) x15_1 (decide (t103 ≥ 0)) a0_0 a0_1 l0_2) = some r := H;have A10 := Aside0.mk A100;clear A100;have H' := Aside0.mk H;clear H;have hcz11_0 : wr.cell? ⟨gb101, 0, none⟩ = some (.int .i64 a0_0) := (blk_cell BK101.out 0).trans rfl;have hcz11_1 : wr.cell? ⟨gb101, 1, none⟩ = some (.int .i64 a0_1) := (blk_cell BK101.out 1).trans rfl;have hcz11_2 : wr.cell? ⟨gb101, 2, none⟩ = some (.slice (some ad102) l0_2.length c0_2) := (blk_cell BK101.out 2).trans rfl;have hfz11_0 := blk_frozen BK101.out 0;have hfz11_1 := blk_frozen BK101.out 1;have hfz11_2 := blk_frozen BK101.out 2
        go_wp2_with (first | (go_at_call 87; (with_reducible refine (spec_tiAhead.calls a0_0 a0_1 _ _ l0_2 x15_1 a1 t103 _ ?side1 ?side2 A10.out).mono ?_); (case side1 => repeat (first | exact (Kd.C_below HR0_2.out HB.out) | (with_reducible refine Kd.C_alloc ?_ _) | (with_reducible refine Kd.C_drewN ?_ _) | (with_reducible refine Kd.C_drew ?_))); (case side2 => exact HC0_2.out); rintro e w12 ⟨rfl, hb⟩; have n0_ := Aside0.mk (Kd.N_below (by (with_reducible repeat (first | apply Kd.N_alloc | apply Kd.N_drewN | apply Kd.N_drew)); (first | exact HO_5.out | exact R_any HO_5.out)) hb); have n1_ := Aside0.mk (blk_below (g := gb101) (o := .cells #[.int .i64 a0_0, .int .i64 a0_1, .slice (some ad102) l0_2.length c0_2] 38 (0, 0)) blc hb); have n2_ := Aside0.mk (below_step (bel HB) hb); clear HO_5; clear BK101; clear HB; have HO_5 := n0_; have BK101 := n1_; have HB := n2_; clear n0_ n1_ n2_; (try clear hb); (try clear hb2); (try clear hk); (try clear hi)))
        go_meet
        case rel => exact ⟨_, (decide (t103 ≥ 0)), (by first | rfl | (simp; done) | (simp [*]; done)), H', ⟨by have := HK1.out; first | omega | exact Nat.le_refl _⟩, ⟨by (with_reducible repeat (first | apply Kd.N_alloc | apply Kd.N_drewN | apply Kd.N_drew)); (first | exact HO_5.out | exact R_any HO_5.out)⟩, ⟨blc⟩, ⟨bel HB⟩⟩
      case rest =>
       clear HC8
       try clear p1
       try clear q1
       try clear hx1
       try clear p2
       try clear c5
       try clear c5b0
       try clear c5b0y
       try clear c6
       try clear c6b0
       try clear c6b0y
       try clear c7
       try clear c7b0
       try clear c7b0y
       try clear c9
       try clear c9b0
       try clear c9b0y
       try clear c9b1
       try clear p10
       try clear q10
       try clear hx10
       try clear hcz11_0
       try clear hcz11_1
       try clear hcz11_2
       try clear hcz4_0
       try clear hcz4_1
       try clear hcz4_2
       try clear hfz11_0
       try clear hfz11_1
       try clear hfz11_2
       try clear hfz4_0
       try clear hfz4_1
       try clear hfz4_2
       try clear hx102_0
       try clear p102
       try clear p2
       try clear q102
       obtain ⟨kq, x28_7, rfl, HA, HJ7, HO_5, BK101, HB⟩ := hcut
       cases kq with
       | zero => exact absurd HA.out (by simp [spec_tiStretches.j1])
       | succ kj7 =>
        have H := HA.out;clear HA
        simp only [spec_tiStretches.j1] at H
        by_cases c13 : x28_7 = true
        ·subst c13
         have H1 : (spec_tiStretches.l0 kj7 a1 x5_1 l0_2 (l0_2.length : Int) (wrap64 (x15_1 + 1)) a0_0 a0_1 l0_2) = some r := by rw [if_pos rfl] at H; exact H
         clear H;have H := H1;clear H1;have H' := Aside0.mk H;clear H
         go_wp2
         go_roundg kj7
         case measure => have := HK1.out; have := HJ7.out; omega
         case rel => exact ⟨(x5_1), (wrap64 (x15_1 + 1)), (by first | rfl | (simp; done) | (simp [*]; done)), H', ⟨by have := HK1.out; have := HJ7.out; omega⟩, ⟨by (with_reducible repeat (first | apply Kd.N_alloc | apply Kd.N_drewN | apply Kd.N_drew)); (first | exact HO_5.out | exact R_any HO_5.out)⟩, ⟨blc⟩, ⟨bel HB⟩⟩
        ·replace c13 := Bool.eq_false_iff.mpr c13
         subst c13
         have H1 : ((spec_tiAhead.f a0_0 a0_1 l0_2 x15_1 (Int.tmod (wrap64 (a1 + 2)) 4)).bind fun t107 => (spec_tiStretches.l1 kj7 a1 x5_1 (([x15_1] : List Int)) t107 l0_2 (l0_2.length : Int) x15_1 a0_0 a0_1 l0_2)) = some r := by rw [if_neg (show ¬ (false = true) by decide)] at H; exact H
         clear H;have H := H1;clear H1;obtain ⟨y104, hy104⟩ : ∃ y_ : List Int, y_ = (([x15_1] : List Int)) := ⟨_, rfl⟩;replace H : ((spec_tiAhead.f a0_0 a0_1 l0_2 x15_1 (Int.tmod (wrap64 (a1 + 2)) 4)).bind fun t107 => (spec_tiStretches.l1 kj7 a1 x5_1 y104 t107 l0_2 (l0_2.length : Int) x15_1 a0_0 a0_1 l0_2)) = some r := rH hy104 H;have Ny104 := Aside0.mk hy104;clear hy104;replace H := Option.bind_eq_some_iff.mp H;obtain ⟨t107, A140, H⟩ := H;replace H : (spec_tiStretches.l1 kj7 a1 x5_1 y104 t107 l0_2 (l0_2.length : Int) x15_1 a0_0 a0_1 l0_2) = some r := H;have A14 := Aside0.mk A140;clear A140;have H' := Aside0.mk H;clear H
         go_wp2_with (first | ((with_reducible refine gate_dst (N := 30) rfl ?_); refine R_litG (Kd.int .i64) _ 3 ?hg (N := 30) ?hd (xs := ([x15_1] : List Int)) (inner := [.int .i64 x15_1]) (ok := fun _ => True) (okp := fun _ => True) ?hr ?hp (fun _ hk => hk) trivial (Below.refl _ _) (Nat.le_refl _) (by simp) ?_; (case hd => rfl); (case hg => first | rfl | decide | (simp [Region.wanted, yielded]; done) | (go_simp; done)); (case hr => first | (go_simp; done) | (go_simp; rfl)); (case hp => exact (Reps.one (show Kd.M (Kd.int .i64) _ _ _ x15_1 [.int .i64 x15_1] from rfl) (Reps.none _ _))); intro v105 w15 ho16 hb hg_ hnew_; clear hg_ hnew_; (first | rw [← Ny104.out] at ho16 | (simp only [Int.reduceToNat] at ho16; rw [← Ny104.out] at ho16)); have n0_ := Aside0.mk (Kd.N_elder' (by (with_reducible repeat (first | apply Kd.N_alloc | apply Kd.N_drewN | apply Kd.N_drew)); (first | exact HO_5.out | exact R_any HO_5.out)) (Kd.R_base ho16) hb); have n1_ := Aside0.mk (Kd.R_lower (Kd.R_newM (M := fun k_ => (w.heap.size ≤ k_)) ho16 (below_size (bel HB)) (fun k_ h_ => h_)) (below_size (bel HB))); have n2_ := Aside0.mk (blk_below (g := gb101) (o := .cells #[.int .i64 a0_0, .int .i64 a0_1, .slice (some ad102) l0_2.length c0_2] 38 (0, 0)) blc hb); have n3_ := Aside0.mk (below_step (bel HB) hb); clear HO_5; clear BK101; clear HB; have HO_5 := n0_; have HO106 := n1_; have BK101 := n2_; have HB := n3_; clear n0_ n1_ n2_ n3_; clear hb ho16; have hcz17_0 : w15.cell? ⟨gb101, 0, none⟩ = some (.int .i64 a0_0) := (blk_cell BK101.out 0).trans rfl; have hcz17_1 : w15.cell? ⟨gb101, 1, none⟩ = some (.int .i64 a0_1) := (blk_cell BK101.out 1).trans rfl; have hcz17_2 : w15.cell? ⟨gb101, 2, none⟩ = some (.slice (some ad102) l0_2.length c0_2) := (blk_cell BK101.out 2).trans rfl; have hfz17_0 := blk_frozen BK101.out 0; have hfz17_1 := blk_frozen BK101.out 1; have hfz17_2 := blk_frozen BK101.out 2) | ((with_reducible refine gate_callee (f := 87) rfl ?_); refine gcall (some 36) Tryz.func87 #[.agg #[.int .i64 a0_0, .int .i64 a0_1, .slice (some ad102) l0_2.length c0_2], .int .i64 x15_1, .int .i64 (Int.tmod (wrap64 (a1 + 2)) 4)] rfl ?_; (with_reducible refine (spec_tiAhead.calls a0_0 a0_1 _ _ l0_2 x15_1 (Int.tmod (wrap64 (a1 + 2)) 4) t107 _ ?side1 ?side2 A14.out).mono ?_); (case side1 => repeat (first | exact (Kd.C_below HR0_2.out HB.out) | (with_reducible refine Kd.C_alloc ?_ _) | (with_reducible refine Kd.C_drewN ?_ _) | (with_reducible refine Kd.C_drew ?_))); (case side2 => exact HC0_2.out); rintro e w18 ⟨rfl, hb⟩; refine ⟨_, rfl, ?_⟩; have n0_ := Aside0.mk (Kd.N_below (by (with_reducible repeat (first | apply Kd.N_alloc | apply Kd.N_drewN | apply Kd.N_drew)); (first | exact HO_5.out | exact R_any HO_5.out)) hb); have n1_ := Aside0.mk (Kd.R_below (rch HO106) hb); have n2_ := Aside0.mk (blk_below (g := gb101) (o := .cells #[.int .i64 a0_0, .int .i64 a0_1, .slice (some ad102) l0_2.length c0_2] 38 (0, 0)) blc hb); have n3_ := Aside0.mk (below_step (bel HB) hb); clear HO_5; clear HO106; clear BK101; clear HB; have HO_5 := n0_; have HO106 := n1_; have BK101 := n2_; have HB := n3_; clear n0_ n1_ n2_ n3_; (try clear hb); (try clear hb2); (try clear hk); (try clear hi)))
         go_loopg [8, 9] kj7 (fun kq v8 v9 w' => ∃ (x8_3 : List Int) (x9_3 : Int), v9 = .int .i64 x9_3 ∧ Aside0 (spec_tiStretches.l1 kq a1 x5_1 x8_3 x9_3 l0_2 (l0_2.length : Int) x15_1 a0_0 a0_1 l0_2 = some r) ∧ Aside0 (kq ≤ kj7) ∧ Aside0 (Kd.N (Kd.slice 3 (Kd.int .i64)) 39 w' w.heap.size (fun k_ => (w.heap.size ≤ k_) ∧ some k_ ≠ (v8 : Value).ownBlock ∧ k_ ≠ gb101) u5 x5_1) ∧ Aside0 (Kd.R (Kd.int .i64) 3 w' w.heap.size (fun k_ => (w.heap.size ≤ k_)) v8 x8_3) ∧ Aside0 (w'.heap[gb101]? = some (.cells #[.int .i64 a0_0, .int .i64 a0_1, (.slice (some ad102) l0_2.length c0_2)] 38 (0, 0))) ∧ Aside0 (Below w.heap.size w w'))
         case atStart => exact ⟨(y104), (t107), (by first | rfl | (simp; done) | (simp [*]; done)), H', ⟨Nat.le_refl _⟩, ⟨by (with_reducible repeat (first | apply Kd.N_alloc | apply Kd.N_drewN | apply Kd.N_drew)); exact Kd.N_mono HO_5.out (fun _ hk => ⟨hk.1.1, ⟨hk.2, hk.1.2⟩⟩)⟩, ⟨by (with_reducible repeat (first | apply Kd.R_alloc | apply Kd.R_drewN | apply Kd.R_drew)); exact Kd.R_mono HO106.out (fun _ hk => hk.1)⟩, ⟨blc⟩, ⟨bel HB⟩⟩
         case round =>
          clear H'
          try clear c1
          try clear p1
          try clear q1
          try clear hx1
          try clear p2
          try clear c5
          try clear c5b0
          try clear c5b0y
          try clear c6
          try clear c6b0
          try clear c6b0y
          try clear p6
          try clear c7
          try clear c7b0
          try clear c7b0y
          try clear c8
          try clear c9
          try clear c9b0
          try clear c9b0y
          try clear c9b1
          try clear p10
          try clear q10
          try clear hx10
          try clear c13
          try clear hcz11_0
          try clear hcz11_1
          try clear hcz11_2
          try clear hcz17_0
          try clear hcz17_1
          try clear hcz17_2
          try clear hcz4_0
          try clear hcz4_1
          try clear hcz4_2
          try clear hfz11_0
          try clear hfz11_1
          try clear hfz11_2
          try clear hfz17_0
          try clear hfz17_1
          try clear hfz17_2
          try clear hfz4_0
          try clear hfz4_1
          try clear hfz4_2
          try clear hx102_0
          try clear p1
          try clear p10
          try clear p102
          try clear p2
          try clear q1
          try clear q10
          try clear q102
          obtain ⟨x8_3, x9_3, rfl, HA, HK3, HO_5, HO_8, BK101, HB⟩ := hrel
          cases gk with
          | zero => exact absurd HA.out (by simp [spec_tiStretches.l1])
          | succ k3 =>
           have H := HA.out;clear HA
           simp only [spec_tiStretches.l1] at H
           by_cases c19 : x9_3 ≥ 0
           ·rw [if_pos c19] at H
            have c19b0 : decide (0 ≤ x9_3) = true := decide_eq_true c19;clear c19
            by_cases c20 : x8_3.length < 17592186044416
            ·rw [if_pos c20] at H
             have LMc20 := Aside0.mk c20;clear c20;obtain ⟨y108, hy108⟩ : ∃ y_ : List Int, y_ = (x8_3 ++ [x9_3]) := ⟨_, rfl⟩;replace H : ((spec_tiAhead.f a0_0 a0_1 l0_2 x9_3 (Int.tmod (wrap64 (a1 + 2)) 4)).bind fun t111 => (spec_tiStretches.l1 k3 a1 x5_1 y108 t111 l0_2 (l0_2.length : Int) x15_1 a0_0 a0_1 l0_2)) = some r := rH hy108 H;have Ny108 := Aside0.mk hy108;clear hy108;replace H := Option.bind_eq_some_iff.mp H;obtain ⟨t111, A210, H⟩ := H;replace H : (spec_tiStretches.l1 k3 a1 x5_1 y108 t111 l0_2 (l0_2.length : Int) x15_1 a0_0 a0_1 l0_2) = some r := H;have A21 := Aside0.mk A210;clear A210;have H' := Aside0.mk H;clear H
             go_wp2_with (first | ((with_reducible refine gate_builtin (b := .append) (xs := #[.tmp 45, .tmp 47]) rfl ?_); at_builtin; refine Kd.R_append (Kd.int .i64) (w0 := w) w.heap.size rfl (.tmp 45) (.tmp 47) 39 3 (.int .i64 0) 8 rfl Tryz.underlying39 info3 rfl (by decide) (by omega) u8 x8_3 x9_3 [.int .i64 x9_3] (fun k_ => (w.heap.size ≤ k_)) (fun _ => False) rfl rfl ?aP (fun _ hk => hk.elim) ?aF ?aO ?aB ?aS ?aL ?_; (case aP => exact rfl); (case aB => exact (bel HB)); (case aF => exact (fun k_ hk => (Nat.le_trans (below_size (bel HB)) hk))); (case aO => exact (rch HO_8)); (case aS => exact (below_size (bel HB))); (case aL => have := LMc20.out; omega); intro v109 w22 ho hb hg hat; rw [← Ny108.out] at ho; have n0_ := Aside0.mk (Kd.N_afterv (ok := (fun k_ => (w.heap.size ≤ k_) ∧ k_ ≠ gb101)) (by (with_reducible repeat (first | apply Kd.N_alloc | apply Kd.N_drewN | apply Kd.N_drew)); exact Kd.N_mono HO_5.out (fun _ hk => ⟨⟨hk.1, hk.2.2⟩, hk.2.1⟩)) hg hat); have n1_ := Aside0.mk (blk_grown (g := gb101) (o := .cells #[.int .i64 a0_0, .int .i64 a0_1, .slice (some ad102) l0_2.length c0_2] 38 (0, 0)) blc hg (Kd.R_ne HO_8.out BK101.out (by decide))); have n2_ := Aside0.mk (hb); have n3_ := Aside0.mk (ho); clear HO_5; clear BK101; clear HB; clear HO_8; have HO_5 := n0_; have BK101 := n1_; have HB := n2_; have HO110 := n3_; clear n0_ n1_ n2_ n3_; clear ho hb hg hat; have hcz23_0 : w22.cell? ⟨gb101, 0, none⟩ = some (.int .i64 a0_0) := (blk_cell BK101.out 0).trans rfl; have hcz23_1 : w22.cell? ⟨gb101, 1, none⟩ = some (.int .i64 a0_1) := (blk_cell BK101.out 1).trans rfl; have hcz23_2 : w22.cell? ⟨gb101, 2, none⟩ = some (.slice (some ad102) l0_2.length c0_2) := (blk_cell BK101.out 2).trans rfl; have hfz23_0 := blk_frozen BK101.out 0; have hfz23_1 := blk_frozen BK101.out 1; have hfz23_2 := blk_frozen BK101.out 2) | ((with_reducible refine gate_callee (f := 87) rfl ?_); refine gcall (some 44) Tryz.func87 #[.agg #[.int .i64 a0_0, .int .i64 a0_1, .slice (some ad102) l0_2.length c0_2], .int .i64 x9_3, .int .i64 (Int.tmod (wrap64 (a1 + 2)) 4)] rfl ?_; (with_reducible refine (spec_tiAhead.calls a0_0 a0_1 _ _ l0_2 x9_3 (Int.tmod (wrap64 (a1 + 2)) 4) t111 _ ?side1 ?side2 A21.out).mono ?_); (case side1 => repeat (first | exact (Kd.C_below HR0_2.out HB.out) | (with_reducible refine Kd.C_alloc ?_ _) | (with_reducible refine Kd.C_drewN ?_ _) | (with_reducible refine Kd.C_drew ?_))); (case side2 => exact HC0_2.out); rintro e w24 ⟨rfl, hb⟩; refine ⟨_, rfl, ?_⟩; have n0_ := Aside0.mk (Kd.N_below (by (with_reducible repeat (first | apply Kd.N_alloc | apply Kd.N_drewN | apply Kd.N_drew)); (first | exact HO_5.out | exact R_any HO_5.out)) hb); have n1_ := Aside0.mk (Kd.R_below (rch HO110) hb); have n2_ := Aside0.mk (blk_below (g := gb101) (o := .cells #[.int .i64 a0_0, .int .i64 a0_1, .slice (some ad102) l0_2.length c0_2] 38 (0, 0)) blc hb); have n3_ := Aside0.mk (below_step (bel HB) hb); clear HO_5; clear HO110; clear BK101; clear HB; have HO_5 := n0_; have HO110 := n1_; have BK101 := n2_; have HB := n3_; clear n0_ n1_ n2_ n3_; (try clear hb); (try clear hb2); (try clear hk); (try clear hi)))
             go_roundg k3
             case measure => have := HK1.out; have := HJ7.out; have := HK3.out; omega
             case rel => exact ⟨(y108), (t111), (by first | rfl | (simp; done) | (simp [*]; done)), H', ⟨by have := HK1.out; have := HJ7.out; have := HK3.out; omega⟩, ⟨by (with_reducible repeat (first | apply Kd.N_alloc | apply Kd.N_drewN | apply Kd.N_drew)); exact Kd.N_mono HO_5.out (fun _ hk => ⟨hk.1.1, ⟨hk.2, hk.1.2⟩⟩)⟩, ⟨rch HO110⟩, ⟨blc⟩, ⟨bel HB⟩⟩
            ·rw [if_neg c20] at H
             exact absurd H (by simp)
           ·rw [if_neg c19] at H
            have c19b0 : decide (0 ≤ x9_3) = false := decide_eq_false c19;clear c19;have H' := Aside0.mk H;clear H
            go_wp2
            go_loopg [10] k3 (fun kq v10 w' => ∃ (x10_4 : Int), v10 = .int .i64 x10_4 ∧ Aside0 (spec_tiStretches.l2 kq a1 x5_1 x8_3 x10_4 l0_2 (l0_2.length : Int) x15_1 a0_0 a0_1 l0_2 = some r) ∧ Aside0 (kq ≤ k3) ∧ Aside0 (Kd.N (Kd.slice 3 (Kd.int .i64)) 39 w' w.heap.size (fun k_ => (w.heap.size ≤ k_) ∧ some k_ ≠ (u8 : Value).ownBlock ∧ k_ ≠ gb101) u5 x5_1) ∧ Aside0 (Kd.R (Kd.int .i64) 3 w' w.heap.size (fun k_ => (w.heap.size ≤ k_)) u8 x8_3) ∧ Aside0 (w'.heap[gb101]? = some (.cells #[.int .i64 a0_0, .int .i64 a0_1, (.slice (some ad102) l0_2.length c0_2)] 38 (0, 0))) ∧ Aside0 (Below w.heap.size w w'))
            case atStart => exact ⟨(0), (by first | rfl | (simp; done) | (simp [*]; done)), H', ⟨Nat.le_refl _⟩, ⟨by (with_reducible repeat (first | apply Kd.N_alloc | apply Kd.N_drewN | apply Kd.N_drew)); (first | exact HO_5.out | exact R_any HO_5.out)⟩, ⟨rch HO_8⟩, ⟨blc⟩, ⟨bel HB⟩⟩
            case round =>
             clear H'
             try clear c1
             try clear p1
             try clear q1
             try clear hx1
             try clear c2
             try clear p2
             try clear c5
             try clear c5b0
             try clear c5b0y
             try clear c6
             try clear c6b0
             try clear c6b0y
             try clear p6
             try clear c7
             try clear c7b0
             try clear c7b0y
             try clear c8
             try clear c9
             try clear c9b0
             try clear c9b0y
             try clear c9b1
             try clear p10
             try clear q10
             try clear hx10
             try clear c13
             try clear c19
             try clear c19b0
             try clear c19b0y
             try clear c20
             try clear hcz11_0
             try clear hcz11_1
             try clear hcz11_2
             try clear hcz17_0
             try clear hcz17_1
             try clear hcz17_2
             try clear hcz23_0
             try clear hcz23_1
             try clear hcz23_2
             try clear hcz4_0
             try clear hcz4_1
             try clear hcz4_2
             try clear hfz11_0
             try clear hfz11_1
             try clear hfz11_2
             try clear hfz17_0
             try clear hfz17_1
             try clear hfz17_2
             try clear hfz23_0
             try clear hfz23_1
             try clear hfz23_2
             try clear hfz4_0
             try clear hfz4_1
             try clear hfz4_2
             try clear hx102_0
             try clear p1
             try clear p10
             try clear p102
             try clear p2
             try clear p6
             try clear q1
             try clear q10
             try clear q102
             obtain ⟨x10_4, rfl, HA, HK4, HO_5, HO_8, BK101, HB⟩ := hrel
             cases gk with
             | zero => exact absurd HA.out (by simp [spec_tiStretches.l2])
             | succ k4 =>
              have H := HA.out;clear HA
              simp only [spec_tiStretches.l2] at H
              by_cases c25 : x10_4 < (x5_1.length : Int)
              ·rw [if_pos c25] at H
               have c25b0 : decide (x10_4 < (x5_1.length : Int)) = true := decide_eq_true c25;clear c25
               by_cases c26 : 0 ≤ x10_4
               ·rw [if_pos c26] at H
                have c26b0 : decide (0 ≤ x10_4) = true := decide_eq_true c26;clear c26;replace H := Option.bind_eq_some_iff.mp H;obtain ⟨t113, A270, H⟩ := H;replace H : ((spec_tiFirst.f k4 x8_3).bind fun t114 => (if t113 < t114 then (spec_tiStretches.l2 k4 a1 x5_1 x8_3 (wrap64 (x10_4 + 1)) l0_2 (l0_2.length : Int) x15_1 a0_0 a0_1 l0_2) else ((some (([] : List (List Int)) : List (List Int))).bind fun y115 => (if x10_4 ≤ (x5_1.length : Int) then ((some (x5_1.take (x10_4 : Int).toNat : List (List Int))).bind fun y118 => (if y115.length + y118.length < 5864062014805 then ((some (y115 ++ y118 : List (List Int))).bind fun y123 => (if y123.length < 5864062014805 then ((some (y123 ++ [x8_3] : List (List Int))).bind fun y126 => ((some (x5_1.drop (x10_4 : Int).toNat : List (List Int))).bind fun y129 => (if y126.length + y129.length < 5864062014805 then (spec_tiStretches.l0 k4 a1 (y126 ++ y129) l0_2 (l0_2.length : Int) (wrap64 (x15_1 + 1)) a0_0 a0_1 l0_2) else (none)))) else (none))) else (none))) else (none))))) = some r := H;have A27 := Aside0.mk A270;clear A270;replace H := Option.bind_eq_some_iff.mp H;obtain ⟨t114, A280, H⟩ := H;replace H : (if t113 < t114 then (spec_tiStretches.l2 k4 a1 x5_1 x8_3 (wrap64 (x10_4 + 1)) l0_2 (l0_2.length : Int) x15_1 a0_0 a0_1 l0_2) else ((some (([] : List (List Int)) : List (List Int))).bind fun y115 => (if x10_4 ≤ (x5_1.length : Int) then ((some (x5_1.take (x10_4 : Int).toNat : List (List Int))).bind fun y118 => (if y115.length + y118.length < 5864062014805 then ((some (y115 ++ y118 : List (List Int))).bind fun y123 => (if y123.length < 5864062014805 then ((some (y123 ++ [x8_3] : List (List Int))).bind fun y126 => ((some (x5_1.drop (x10_4 : Int).toNat : List (List Int))).bind fun y129 => (if y126.length + y129.length < 5864062014805 then (spec_tiStretches.l0 k4 a1 (y126 ++ y129) l0_2 (l0_2.length : Int) (wrap64 (x15_1 + 1)) a0_0 a0_1 l0_2) else (none)))) else (none))) else (none))) else (none)))) = some r := H;have A28 := Aside0.mk A280;clear A280
                by_cases c29 : t113 < t114
                ·rw [if_pos c29] at H
                 have c29b0 : decide (t113 < t114) = true := decide_eq_true c29;clear c29;have H' := Aside0.mk H;clear H;obtain ⟨Ao30, co30, eo30⟩ := Kd.N_slice HO_5.out;subst eo30;have p112 : 0 ≤ (x10_4 : Int) := of_decide_eq_true (by first | (with_reducible assumption) | assumption);have q112 : x10_4 < (x5_1.length : Int) := of_decide_eq_true (by first | (with_reducible assumption) | assumption);obtain ⟨ad112, A112_0, c112_0, e112, hx112_0, hl112_0, hi112_0⟩ := at_Lii (Kd.N_reads' HO_5.out).2.2 x10_4 p112 q112
                 cases e112
                 obtain ⟨ce112, hce112, hMe112, hcc112⟩ := Kd.N_get HO_5.out [] x10_4 p112 (by first | exact q112 | exact of_decide_eq_true (by first | (with_reducible assumption) | assumption) | (have e_ := (Kd.N_reads' HO_5.out).1; omega));obtain ⟨ua112_0, uc112_0, rfl, ul112_0, ge112_0⟩ := Kd.FK_slice_open hMe112;have hv112_0 := hcc112 0 _ rfl
                 rw [Nat.add_zero, show ((Kd.slice 3 (Kd.int .i64))).sz = 1 from rfl, Nat.mul_one] at hv112_0
                 replace hv112_0 := Option.some.inj (hv112_0.symm.trans hx112_0)
                 injection hv112_0 with hva_ hvn_ hvc_
                 rw [hva_] at ge112_0
                 rw [hvc_] at ul112_0
                 have HL112_0 := Aside0.mk (show Kd.V (Kd.int .i64) 3 _ w.heap.size _ _ (rd_Lii x5_1 x10_4) from Kd.V_mk ul112_0 ge112_0);clear hva_ hvn_ hvc_ ge112_0 ul112_0;clear hcc112 hce112;have HR112_0 := Aside0.mk hi112_0;have HC112_0 := Aside0.mk hl112_0;clear hi112_0 hl112_0;replace p112 := eq_true p112;replace q112 := eq_true q112
                 go_wp2_with (first | (go_at_call 88; (with_reducible refine (spec_tiFirst.calls k4 _ _ (rd_Lii x5_1 x10_4) t113 _ ?side1 ?side2 A27.out).mono ?_); (case side1 => repeat (first | exact (by repeat (first | (with_reducible exact HR112_0.out) | (with_reducible refine Kd.C_alloc ?_ _) | (with_reducible refine Kd.C_drewN ?_ _) | (with_reducible refine Kd.C_drew ?_) | exact HR112_0.out)) | (with_reducible refine Kd.C_alloc ?_ _) | (with_reducible refine Kd.C_drewN ?_ _) | (with_reducible refine Kd.C_drew ?_))); (case side2 => exact HC112_0.out); rintro e w' ⟨rfl, ⟨nd, rfl⟩⟩; obtain ⟨Ao31, co31, eo31⟩ := Kd.R_slice HO_8.out; subst eo31) | (go_at_call 88; (with_reducible refine (spec_tiFirst.calls k4 _ _ x8_3 t114 _ ?side1 ?side2 A28.out).mono ?_); (case side1 => repeat (first | exact (Kd.R_reads' HO_8.out).2.2 | (with_reducible refine Kd.C_alloc ?_ _) | (with_reducible refine Kd.C_drewN ?_ _) | (with_reducible refine Kd.C_drew ?_))); (case side2 => exact (Kd.R_reads' HO_8.out).2.1); rintro e w' ⟨rfl, ⟨nd, rfl⟩⟩))
                 go_roundg k4
                 case measure => have := HK1.out; have := HJ7.out; have := HK3.out; have := HK4.out; omega
                 case rel => exact ⟨(wrap64 (x10_4 + 1)), (by first | rfl | (simp; done) | (simp [*]; done)), H', ⟨by have := HK1.out; have := HJ7.out; have := HK3.out; have := HK4.out; omega⟩, ⟨by (with_reducible repeat (first | apply Kd.N_alloc | apply Kd.N_drewN | apply Kd.N_drew)); (first | exact HO_5.out | exact R_any HO_5.out)⟩, ⟨rch HO_8⟩, ⟨blc⟩, ⟨bel HB⟩⟩
                ·rw [if_neg c29] at H
                 have c29b0 : decide (t113 < t114) = false := decide_eq_false c29;clear c29;obtain ⟨y115, hy115⟩ : ∃ y_ : List (List Int), y_ = (([] : List (List Int))) := ⟨_, rfl⟩;replace H : (if x10_4 ≤ (x5_1.length : Int) then ((some (x5_1.take (x10_4 : Int).toNat : List (List Int))).bind fun y118 => (if y115.length + y118.length < 5864062014805 then ((some (y115 ++ y118 : List (List Int))).bind fun y123 => (if y123.length < 5864062014805 then ((some (y123 ++ [x8_3] : List (List Int))).bind fun y126 => ((some (x5_1.drop (x10_4 : Int).toNat : List (List Int))).bind fun y129 => (if y126.length + y129.length < 5864062014805 then (spec_tiStretches.l0 k4 a1 (y126 ++ y129) l0_2 (l0_2.length : Int) (wrap64 (x15_1 + 1)) a0_0 a0_1 l0_2) else (none)))) else (none))) else (none))) else (none)) = some r := rH hy115 H;have Ny115 := Aside0.mk hy115;clear hy115;have c32b0 := eq_true (of_decide_eq_true (by first | (with_reducible assumption) | assumption) : 0 ≤ x10_4)
                 by_cases c33 : x10_4 ≤ (x5_1.length : Int)
                 ·rw [if_pos c33] at H
                  have c33b0 := eq_true c33;have c33b1 : decide (x10_4 ≤ (x5_1.length : Int)) = true := decide_eq_true c33;clear c33;obtain ⟨y118, hy118⟩ : ∃ y_ : List (List Int), y_ = (x5_1.take (x10_4 : Int).toNat) := ⟨_, rfl⟩;replace H : (if y115.length + y118.length < 5864062014805 then ((some (y115 ++ y118 : List (List Int))).bind fun y123 => (if y123.length < 5864062014805 then ((some (y123 ++ [x8_3] : List (List Int))).bind fun y126 => ((some (x5_1.drop (x10_4 : Int).toNat : List (List Int))).bind fun y129 => (if y126.length + y129.length < 5864062014805 then (spec_tiStretches.l0 k4 a1 (y126 ++ y129) l0_2 (l0_2.length : Int) (wrap64 (x15_1 + 1)) a0_0 a0_1 l0_2) else (none)))) else (none))) else (none)) = some r := rH hy118 H;have Ny118 := Aside0.mk hy118;clear hy118
                  by_cases c34 : y115.length + y118.length < 5864062014805
                  ·rw [if_pos c34] at H
                   have LMc34 := Aside0.mk c34;clear c34;obtain ⟨y123, hy123⟩ : ∃ y_ : List (List Int), y_ = (y115 ++ y118) := ⟨_, rfl⟩;replace H : (if y123.length < 5864062014805 then ((some (y123 ++ [x8_3] : List (List Int))).bind fun y126 => ((some (x5_1.drop (x10_4 : Int).toNat : List (List Int))).bind fun y129 => (if y126.length + y129.length < 5864062014805 then (spec_tiStretches.l0 k4 a1 (y126 ++ y129) l0_2 (l0_2.length : Int) (wrap64 (x15_1 + 1)) a0_0 a0_1 l0_2) else (none)))) else (none)) = some r := rH hy123 H;have Ny123 := Aside0.mk hy123;clear hy123
                   by_cases c35 : y123.length < 5864062014805
                   ·rw [if_pos c35] at H
                    have LMc35 := Aside0.mk c35;clear c35;obtain ⟨y126, hy126⟩ : ∃ y_ : List (List Int), y_ = (y123 ++ [x8_3]) := ⟨_, rfl⟩;replace H : ((some (x5_1.drop (x10_4 : Int).toNat : List (List Int))).bind fun y129 => (if y126.length + y129.length < 5864062014805 then (spec_tiStretches.l0 k4 a1 (y126 ++ y129) l0_2 (l0_2.length : Int) (wrap64 (x15_1 + 1)) a0_0 a0_1 l0_2) else (none))) = some r := rH hy126 H;have Ny126 := Aside0.mk hy126;clear hy126;have c36b0 := eq_true (of_decide_eq_true (by first | (with_reducible assumption) | assumption) : 0 ≤ x10_4);have c37b0 := eq_true (of_decide_eq_true (by first | (with_reducible assumption) | assumption) : x10_4 ≤ (x5_1.length : Int));obtain ⟨y129, hy129⟩ : ∃ y_ : List (List Int), y_ = (x5_1.drop (x10_4 : Int).toNat) := ⟨_, rfl⟩;replace H : (if y126.length + y129.length < 5864062014805 then (spec_tiStretches.l0 k4 a1 (y126 ++ y129) l0_2 (l0_2.length : Int) (wrap64 (x15_1 + 1)) a0_0 a0_1 l0_2) else (none)) = some r := rH hy129 H;have Ny129 := Aside0.mk hy129;clear hy129
                    by_cases c38 : y126.length + y129.length < 5864062014805
                    ·rw [if_pos c38] at H
                     have LMc38 := Aside0.mk c38;clear c38;obtain ⟨y134, hy134⟩ : ∃ y_ : List (List Int), y_ = (y126 ++ y129) := ⟨_, rfl⟩;replace H : (spec_tiStretches.l0 k4 a1 y134 l0_2 (l0_2.length : Int) (wrap64 (x15_1 + 1)) a0_0 a0_1 l0_2) = some r := rH hy134 H;have Ny134 := Aside0.mk hy134;clear hy134;have H' := Aside0.mk H;clear H;obtain ⟨Ao39, co39, eo39⟩ := Kd.N_slice HO_5.out;subst eo39;have p112 : 0 ≤ (x10_4 : Int) := of_decide_eq_true (by first | (with_reducible assumption) | assumption);have q112 : x10_4 < (x5_1.length : Int) := of_decide_eq_true (by first | (with_reducible assumption) | assumption);obtain ⟨ad112, A112_0, c112_0, e112, hx112_0, hl112_0, hi112_0⟩ := at_Lii (Kd.N_reads' HO_5.out).2.2 x10_4 p112 q112
                     cases e112
                     obtain ⟨ce112, hce112, hMe112, hcc112⟩ := Kd.N_get HO_5.out [] x10_4 p112 (by first | exact q112 | exact of_decide_eq_true (by first | (with_reducible assumption) | assumption) | (have e_ := (Kd.N_reads' HO_5.out).1; omega));obtain ⟨ua112_0, uc112_0, rfl, ul112_0, ge112_0⟩ := Kd.FK_slice_open hMe112;have hv112_0 := hcc112 0 _ rfl
                     rw [Nat.add_zero, show ((Kd.slice 3 (Kd.int .i64))).sz = 1 from rfl, Nat.mul_one] at hv112_0
                     replace hv112_0 := Option.some.inj (hv112_0.symm.trans hx112_0)
                     injection hv112_0 with hva_ hvn_ hvc_
                     rw [hva_] at ge112_0
                     rw [hvc_] at ul112_0
                     have HL112_0 := Aside0.mk (show Kd.V (Kd.int .i64) 3 _ w.heap.size _ _ (rd_Lii x5_1 x10_4) from Kd.V_mk ul112_0 ge112_0);clear hva_ hvn_ hvc_ ge112_0 ul112_0;clear hcc112 hce112;have HR112_0 := Aside0.mk hi112_0;have HC112_0 := Aside0.mk hl112_0;clear hi112_0 hl112_0;replace p112 := eq_true p112;replace q112 := eq_true q112
                     go_wp2_with (first | (go_at_call 88; (with_reducible refine (spec_tiFirst.calls k4 _ _ (rd_Lii x5_1 x10_4) t113 _ ?side1 ?side2 A27.out).mono ?_); (case side1 => repeat (first | exact (by repeat (first | (with_reducible exact HR112_0.out) | (with_reducible refine Kd.C_alloc ?_ _) | (with_reducible refine Kd.C_drewN ?_ _) | (with_reducible refine Kd.C_drew ?_) | exact HR112_0.out)) | (with_reducible refine Kd.C_alloc ?_ _) | (with_reducible refine Kd.C_drewN ?_ _) | (with_reducible refine Kd.C_drew ?_))); (case side2 => exact HC112_0.out); rintro e w' ⟨rfl, ⟨nd, rfl⟩⟩; obtain ⟨Ao40, co40, eo40⟩ := Kd.R_slice HO_8.out; subst eo40) | (go_at_call 88; (with_reducible refine (spec_tiFirst.calls k4 _ _ x8_3 t114 _ ?side1 ?side2 A28.out).mono ?_); (case side1 => repeat (first | exact (Kd.R_reads' HO_8.out).2.2 | (with_reducible refine Kd.C_alloc ?_ _) | (with_reducible refine Kd.C_drewN ?_ _) | (with_reducible refine Kd.C_drew ?_))); (case side2 => exact (Kd.R_reads' HO_8.out).2.1); rintro e w' ⟨rfl, ⟨nd, rfl⟩⟩) | ((with_reducible refine gate_dst (N := 65) rfl ?_); refine Kd.N_lit (Kd.slice 3 (Kd.int .i64)) _ 39 ?hg (N' := 65) ?hd (xs := ([] : List (List Int))) (inner := []) (ok := (fun k_ => (w.heap.size ≤ k_) ∧ some k_ ≠ (.slice (some ad112) x5_1.length co39 : Value).ownBlock ∧ some k_ ≠ (.slice Ao40 x8_3.length co40 : Value).ownBlock ∧ k_ ≠ gb101)) (okp := (fun k_ => (w.heap.size ≤ k_) ∧ some k_ ≠ (.slice (some ad112) x5_1.length co39 : Value).ownBlock ∧ some k_ ≠ (.slice Ao40 x8_3.length co40 : Value).ownBlock ∧ k_ ≠ gb101)) ?hr ?hp (fun _ hk => hk) ((show ∀ k_, wr.heap.size ≤ k_ → (fun k_ => (w.heap.size ≤ k_) ∧ some k_ ≠ (.slice (some ad112) x5_1.length co39 : Value).ownBlock ∧ some k_ ≠ (.slice Ao40 x8_3.length co40 : Value).ownBlock ∧ k_ ≠ gb101) k_ from fun k_ hk => ⟨(Nat.le_trans (below_size (bel HB)) hk), Kd.fresh' (Kd.N_lt (by (with_reducible repeat (first | apply Kd.N_alloc | apply Kd.N_drewN | apply Kd.N_drew)); (first | exact HO_5.out | exact R_any HO_5.out))) k_ hk, Kd.fresh' (Kd.R_lt (rch HO_8)) k_ hk, Kd.freshB (g := gb101) (o := .cells #[.int .i64 a0_0, .int .i64 a0_1, .slice (some ad102) l0_2.length c0_2] 38 (0, 0)) blc k_ hk⟩) _ (Nat.le_refl _)) (Below.refl _ _) (Nat.le_refl _) (by simp) ?_; (case hd => rfl); (case hg => rfl); (case hr => first | (go_simp; done) | (go_simp; rfl)); (case hp => exact (Reps.none _ _)); intro v116 w41 ho42 hb hg_ hnew_; clear hg_ hnew_; (first | rw [← Ny115.out] at ho42 | (simp only [Int.reduceToNat] at ho42; rw [← Ny115.out] at ho42)); have n0_ := Aside0.mk (Kd.N_elder' (by (with_reducible repeat (first | apply Kd.N_alloc | apply Kd.N_drewN | apply Kd.N_drew)); (first | exact HO_5.out | exact R_any HO_5.out)) (Kd.N_base ho42) hb); have n1_ := Aside0.mk (Kd.R_below (rch HO_8) hb); have n2_ := Aside0.mk (Kd.V_elder' (by (with_reducible repeat (first | apply Kd.V_alloc | apply Kd.V_drewN | apply Kd.V_drew)); exact HL112_0.out) (Kd.N_base ho42) hb); have n3_ := Aside0.mk (Kd.N_lower ho42 (below_size (bel HB))); have n4_ := Aside0.mk (blk_below (g := gb101) (o := .cells #[.int .i64 a0_0, .int .i64 a0_1, .slice (some ad102) l0_2.length c0_2] 38 (0, 0)) blc hb); have n5_ := Aside0.mk (Kd.C_below (by repeat (first | (with_reducible exact HR112_0.out) | (with_reducible refine Kd.C_alloc ?_ _) | (with_reducible refine Kd.C_drewN ?_ _) | (with_reducible refine Kd.C_drew ?_) | exact HR112_0.out)) hb); have n6_ := Aside0.mk (below_step (bel HB) hb); clear HO_5; clear HO_8; clear HL112_0; clear BK101; clear HR112_0; clear HB; have HO_5 := n0_; have HO_8 := n1_; have HL112_0 := n2_; have HO117 := n3_; have BK101 := n4_; have HR112_0 := n5_; have HB := n6_; clear n0_ n1_ n2_ n3_ n4_ n5_ n6_; clear hb ho42; have q43 : (x10_4 : Int) ≤ ((x5_1.length : Int) : Int) := of_decide_eq_true (by first | (with_reducible assumption) | assumption); obtain ⟨i043, hi043, _, hsz43, _⟩ := info_parts info39; have hroom43 : x5_1.length ≤ co39 := (Kd.N_reads' HO_5.out).2.1; have hC43 : Kd.F (Kd.slice 3 (Kd.int .i64)) _ _ (some ad112) x5_1.length x5_1 := (Kd.V_at (base := w.heap.size) (Kd.N_V HO_5.out)).2.2; have hcut43 := cut_to (P := Tryz.prog) 44 39 .i64 Tryz.underlying44 hi043 (some ad112) x5_1.length co39 x10_4 (of_decide_eq_true (by first | (with_reducible assumption) | assumption)) q43 hroom43; have hr43 := Kd.F_take (m := (x10_4 : Int).toNat) hC43 (by omega); have hy43 : y118.length = (x10_4 : Int).toNat := (by rw [Ny118.out, List.length_take]; omega); rw [← Ny118.out] at hr43; rw [← hy43] at hcut43; have HO122 := Aside0.mk (show Kd.V (Kd.slice 3 (Kd.int .i64)) 39 _ w.heap.size _ (.slice (some ad112) y118.length co39) y118 from Kd.V_mk (by omega) hr43); have HC122 := Aside0.mk (show y118.length ≤ co39 from by omega); clear hr43 hC43 hroom43 hi043 hsz43; have KY43 := Aside0.mk hy43; clear hy43; replace q43 := eq_true q43) | ((with_reducible refine gate_builtin (b := .append) (xs := #[.tmp 65, .tmp 68]) rfl ?_); at_builtin; refine Kd.N_append_rows (Kd.slice 3 (Kd.int .i64)) (w0 := w) w.heap.size rfl (.tmp 65) (.tmp 68) 44 39 (.slice none 0 0) 24 rfl Tryz.underlying44 info39 rfl (by decide) (by omega) v116 y115 y118 _ _ _ (fun k_ => (w.heap.size ≤ k_) ∧ some k_ ≠ (.slice Ao40 x8_3.length co40 : Value).ownBlock ∧ k_ ≠ gb101) (fun k_ => ((fun k_ => (w.heap.size ≤ k_) ∧ some k_ ≠ (.slice Ao40 x8_3.length co40 : Value).ownBlock ∧ k_ ≠ gb101)) k_ ∧ some k_ ≠ (v116 : Value).ownBlock) rfl rfl ?aO ?aR (fun _ hk => hk) ?aF ?aB ?aS ?aL ?_; (case aR => exact (by skip; exact Kd.V_F (Kd.V_mono (ok' := (fun k_ => ((fun k_ => (w.heap.size ≤ k_) ∧ some k_ ≠ (.slice Ao40 x8_3.length co40 : Value).ownBlock ∧ k_ ≠ gb101)) k_ ∧ some k_ ≠ (v116 : Value).ownBlock)) (HO122.out) (fun k_ hk => ⟨⟨hk.1.1, ⟨hk.1.2.1, hk.1.2.2⟩⟩, hk.2⟩)))); (case aB => exact (bel HB)); (case aF => exact (fun k_ hk => ⟨(Nat.le_trans (below_size (bel HB)) hk), Kd.fresh' (Kd.R_lt (rch HO_8)) k_ hk, Kd.freshB (g := gb101) (o := .cells #[.int .i64 a0_0, .int .i64 a0_1, .slice (some ad102) l0_2.length c0_2] 38 (0, 0)) blc k_ hk⟩)); (case aO => exact (by (with_reducible repeat (first | apply Kd.N_alloc | apply Kd.N_drewN | apply Kd.N_drew)); exact Kd.N_mono HO117.out (fun _ hk => ⟨hk.1, ⟨hk.2.2.1, hk.2.2.2⟩⟩))); (case aS => exact (below_size (bel HB))); (case aL => have := LMc34.out; omega); intro v124 w44 ho hb hg hat; rw [← Ny123.out] at ho; have n0_ := Aside0.mk (Kd.N_afterv (ok := (fun k_ => (w.heap.size ≤ k_) ∧ some k_ ≠ (.slice Ao40 x8_3.length co40 : Value).ownBlock ∧ k_ ≠ gb101)) (by (with_reducible repeat (first | apply Kd.N_alloc | apply Kd.N_drewN | apply Kd.N_drew)); (first | exact HO_5.out | exact R_any HO_5.out)) hg hat); have n1_ := Aside0.mk (Kd.R_over' (rch HO_8) (Kd.N_typed (by (with_reducible repeat (first | apply Kd.N_alloc | apply Kd.N_drewN | apply Kd.N_drew)); (first | exact HO117.out | exact R_any HO117.out))) (by decide) hg); have n2_ := Aside0.mk (blk_grown (g := gb101) (o := .cells #[.int .i64 a0_0, .int .i64 a0_1, .slice (some ad102) l0_2.length c0_2] 38 (0, 0)) blc hg (Kd.N_ne HO117.out BK101.out (by decide))); have n3_ := Aside0.mk (Kd.V_afterv (ok := (fun k_ => (w.heap.size ≤ k_) ∧ some k_ ≠ (.slice (some ad112) x5_1.length co39 : Value).ownBlock ∧ some k_ ≠ (.slice Ao40 x8_3.length co40 : Value).ownBlock ∧ k_ ≠ gb101)) (by (with_reducible repeat (first | apply Kd.V_alloc | apply Kd.V_drewN | apply Kd.V_drew)); exact Kd.V_mono HL112_0.out (fun _ hk => ⟨⟨hk.1.1.1, ⟨hk.1.2, ⟨hk.1.1.2.1, hk.1.1.2.2⟩⟩⟩, hk.2⟩)) hg hat); have n4_ := Aside0.mk (Kd.V_afterv (ok := (fun k_ => (w.heap.size ≤ k_) ∧ some k_ ≠ (.slice Ao40 x8_3.length co40 : Value).ownBlock ∧ k_ ≠ gb101)) (by (with_reducible repeat (first | apply Kd.V_alloc | apply Kd.V_drewN | apply Kd.V_drew)); (first | exact HO122.out | exact R_any HO122.out)) hg hat); have n5_ := Aside0.mk (hb); have n6_ := Aside0.mk (ho); clear HO_5; clear HO_8; clear BK101; clear HL112_0; clear HO122; clear HB; clear HO117; have HO_5 := n0_; have HO_8 := n1_; have BK101 := n2_; have HL112_0 := n3_; have HO122 := n4_; have HB := n5_; have HO125 := n6_; clear n0_ n1_ n2_ n3_ n4_ n5_ n6_; clear ho hb hg hat) | ((with_reducible refine gate_builtin (b := .append) (xs := #[.tmp 69, .tmp 71]) rfl ?_); at_builtin; refine Kd.N_append (Kd.slice 3 (Kd.int .i64)) (w0 := w) w.heap.size rfl (.tmp 69) (.tmp 71) 44 39 (.slice none 0 0) 24 rfl Tryz.underlying44 info39 rfl (by decide) (by omega) v124 y123 x8_3 [.slice Ao40 x8_3.length co40] (fun k_ => (w.heap.size ≤ k_) ∧ k_ ≠ gb101) (fun k_ => ((fun k_ => (w.heap.size ≤ k_) ∧ k_ ≠ gb101)) k_ ∧ some k_ ≠ (v124 : Value).ownBlock) rfl rfl ?aP (fun _ hk => hk) ?aF ?aO ?aB ?aS ?aL ?_; (case aP => exact (Kd.FK_slice_mk (Kd.R_reads' (Kd.R_mono (ok' := (fun k_ => ((fun k_ => (w.heap.size ≤ k_) ∧ k_ ≠ gb101)) k_ ∧ some k_ ≠ (v124 : Value).ownBlock)) (Kd.R_types (Kd.R_apart' (HO_8.out) (Kd.N_typed HO125.out) (by decide)) BK101.out (by decide)) (fun k_ hk => ⟨⟨hk.1.1, hk.2⟩, hk.1.2⟩))).2.1 (Kd.R_F (Kd.R_mono (ok' := (fun k_ => ((fun k_ => (w.heap.size ≤ k_) ∧ k_ ≠ gb101)) k_ ∧ some k_ ≠ (v124 : Value).ownBlock)) (Kd.R_types (Kd.R_apart' (HO_8.out) (Kd.N_typed HO125.out) (by decide)) BK101.out (by decide)) (fun k_ hk => ⟨⟨hk.1.1, hk.2⟩, hk.1.2⟩))))); (case aB => exact (bel HB)); (case aF => exact (fun k_ hk => ⟨(Nat.le_trans (below_size (bel HB)) hk), Kd.freshB (g := gb101) (o := .cells #[.int .i64 a0_0, .int .i64 a0_1, .slice (some ad102) l0_2.length c0_2] 38 (0, 0)) blc k_ hk⟩)); (case aO => exact (by (with_reducible repeat (first | apply Kd.N_alloc | apply Kd.N_drewN | apply Kd.N_drew)); exact Kd.N_mono HO125.out (fun _ hk => ⟨hk.1, hk.2.2⟩))); (case aS => exact (below_size (bel HB))); (case aL => have := LMc35.out; omega); intro v127 w45 ho hb hg hat; rw [← Ny126.out] at ho; have n0_ := Aside0.mk (Kd.N_afterv (ok := (fun k_ => (w.heap.size ≤ k_) ∧ some k_ ≠ (.slice Ao40 x8_3.length co40 : Value).ownBlock ∧ k_ ≠ gb101)) (by (with_reducible repeat (first | apply Kd.N_alloc | apply Kd.N_drewN | apply Kd.N_drew)); (first | exact HO_5.out | exact R_any HO_5.out)) hg hat); have n1_ := Aside0.mk (blk_grown (g := gb101) (o := .cells #[.int .i64 a0_0, .int .i64 a0_1, .slice (some ad102) l0_2.length c0_2] 38 (0, 0)) blc hg (Kd.N_ne HO125.out BK101.out (by decide))); have n2_ := Aside0.mk (Kd.V_afterv (ok := (fun k_ => (w.heap.size ≤ k_) ∧ some k_ ≠ (.slice (some ad112) x5_1.length co39 : Value).ownBlock ∧ some k_ ≠ (.slice Ao40 x8_3.length co40 : Value).ownBlock ∧ k_ ≠ gb101)) (by (with_reducible repeat (first | apply Kd.V_alloc | apply Kd.V_drewN | apply Kd.V_drew)); exact HL112_0.out) hg hat); have n3_ := Aside0.mk (Kd.V_afterv (ok := (fun k_ => (w.heap.size ≤ k_) ∧ some k_ ≠ (.slice Ao40 x8_3.length co40 : Value).ownBlock ∧ k_ ≠ gb101)) (by (with_reducible repeat (first | apply Kd.V_alloc | apply Kd.V_drewN | apply Kd.V_drew)); (first | exact HO122.out | exact R_any HO122.out)) hg hat); have n4_ := Aside0.mk (hb); have n5_ := Aside0.mk (ho); clear HO_5; clear BK101; clear HL112_0; clear HO122; clear HB; clear HO125; clear HO_8; have HO_5 := n0_; have BK101 := n1_; have HL112_0 := n2_; have HO122 := n3_; have HB := n4_; have HO128 := n5_; clear n0_ n1_ n2_ n3_ n4_ n5_; clear ho hb hg hat; have q46 : (x10_4 : Int) ≤ ((x5_1.length : Int) : Int) := of_decide_eq_true (by first | (with_reducible assumption) | assumption); obtain ⟨i046, hi046, _, hsz46, _⟩ := info_parts info39; have hroom46 : x5_1.length ≤ co39 := (Kd.N_reads' HO_5.out).2.1; have hC46 : Kd.F (Kd.slice 3 (Kd.int .i64)) _ _ (some ad112) x5_1.length x5_1 := (Kd.V_at (base := w.heap.size) (Kd.N_V HO_5.out)).2.2; have q046 : (0 : Int) ≤ (x10_4 : Int) := of_decide_eq_true (by first | (with_reducible assumption) | assumption); have hcut46 := cut_from (P := Tryz.prog) 44 39 .i64 Tryz.underlying44 hi046 1 hsz46 (some ad112) x5_1.length co39 x10_4 q046 q46; have hr46 := Kd.F_cut (m := (x10_4 : Int).toNat) (c := co39) hC46 (by omega) hroom46; obtain ⟨A46, hA46⟩ : ∃ A1, A1 = (if co39 = (x10_4 : Int).toNat then (some ad112) else ((some ad112) : Option Addr).map (·.add ((x10_4 : Int).toNat * 1))) := ⟨_, rfl⟩; obtain ⟨c46, hc46⟩ : ∃ c1, c1 = co39 - (x10_4 : Int).toNat := ⟨_, rfl⟩; have hy46 : y129.length = x5_1.length - (x10_4 : Int).toNat := (by rw [Ny129.out, List.length_drop] <;> omega); rw [show (x5_1).drop (x10_4 : Int).toNat = y129 from Ny129.out.symm] at hr46; replace hr46 : Kd.F (Kd.slice 3 (Kd.int .i64)) _ _ A46 y129.length y129 := (by rw [hA46]; exact hr46); rw [← hy46, ← hA46, ← hc46] at hcut46; have HO133 := Aside0.mk (show Kd.V (Kd.slice 3 (Kd.int .i64)) 39 _ w.heap.size _ (.slice A46 y129.length c46) y129 from Kd.V_mk (by rw [hy46, hc46]; exact Nat.sub_le_sub_right hroom46 _) hr46); have HC133 := Aside0.mk (show y129.length ≤ c46 from by rw [hy46, hc46]; exact Nat.sub_le_sub_right hroom46 _); clear hr46 hC46 hroom46 hi046 hsz46 hc46; have KY46 := Aside0.mk hy46; have KA46 := Aside0.mk hA46; clear hy46 hA46; replace q46 := eq_true q46) | ((with_reducible refine gate_builtin (b := .append) (xs := #[.tmp 73, .tmp 76]) rfl ?_); at_builtin; refine Kd.N_append_rows (Kd.slice 3 (Kd.int .i64)) (w0 := w) w.heap.size rfl (.tmp 73) (.tmp 76) 44 39 (.slice none 0 0) 24 rfl Tryz.underlying44 info39 rfl (by decide) (by omega) v127 y126 y129 _ _ _ (fun k_ => (w.heap.size ≤ k_) ∧ k_ ≠ gb101) (fun k_ => ((fun k_ => (w.heap.size ≤ k_) ∧ k_ ≠ gb101)) k_ ∧ some k_ ≠ (v127 : Value).ownBlock) rfl rfl ?aO ?aR (fun _ hk => hk) ?aF ?aB ?aS ?aL ?_; (case aR => exact (by skip; exact Kd.V_F (Kd.V_mono (ok' := (fun k_ => ((fun k_ => (w.heap.size ≤ k_) ∧ k_ ≠ gb101)) k_ ∧ some k_ ≠ (v127 : Value).ownBlock)) (HO133.out) (fun k_ hk => ⟨⟨hk.1.1, hk.1.2.2⟩, hk.2⟩)))); (case aB => exact (bel HB)); (case aF => exact (fun k_ hk => ⟨(Nat.le_trans (below_size (bel HB)) hk), Kd.freshB (g := gb101) (o := .cells #[.int .i64 a0_0, .int .i64 a0_1, .slice (some ad102) l0_2.length c0_2] 38 (0, 0)) blc k_ hk⟩)); (case aO => exact (by (with_reducible repeat (first | apply Kd.N_alloc | apply Kd.N_drewN | apply Kd.N_drew)); (first | exact HO128.out | exact R_any HO128.out))); (case aS => exact (below_size (bel HB))); (case aL => have := LMc38.out; omega); intro v135 w47 ho hb hg hat; rw [← Ny134.out] at ho; have n0_ := Aside0.mk (Kd.N_afterv (ok := (fun k_ => (w.heap.size ≤ k_) ∧ k_ ≠ gb101)) (by (with_reducible repeat (first | apply Kd.N_alloc | apply Kd.N_drewN | apply Kd.N_drew)); exact Kd.N_mono HO_5.out (fun _ hk => ⟨⟨hk.1.1, hk.1.2.2⟩, hk.2⟩)) hg hat); have n1_ := Aside0.mk (blk_grown (g := gb101) (o := .cells #[.int .i64 a0_0, .int .i64 a0_1, .slice (some ad102) l0_2.length c0_2] 38 (0, 0)) blc hg (Kd.N_ne HO128.out BK101.out (by decide))); have n2_ := Aside0.mk (Kd.V_afterv (ok := (fun k_ => (w.heap.size ≤ k_) ∧ some k_ ≠ (.slice (some ad112) x5_1.length co39 : Value).ownBlock ∧ k_ ≠ gb101)) (by (with_reducible repeat (first | apply Kd.V_alloc | apply Kd.V_drewN | apply Kd.V_drew)); exact Kd.V_mono HL112_0.out (fun _ hk => ⟨⟨hk.1.1, ⟨hk.1.2.1, hk.1.2.2.2⟩⟩, hk.2⟩)) hg hat); have n3_ := Aside0.mk (Kd.V_afterv (ok := (fun k_ => (w.heap.size ≤ k_) ∧ k_ ≠ gb101)) (by (with_reducible repeat (first | apply Kd.V_alloc | apply Kd.V_drewN | apply Kd.V_drew)); exact Kd.V_mono HO122.out (fun _ hk => ⟨⟨hk.1.1, hk.1.2.2⟩, hk.2⟩)) hg hat); have n4_ := Aside0.mk (Kd.V_afterv (ok := (fun k_ => (w.heap.size ≤ k_) ∧ k_ ≠ gb101)) (by (with_reducible repeat (first | apply Kd.V_alloc | apply Kd.V_drewN | apply Kd.V_drew)); exact Kd.V_mono HO133.out (fun _ hk => ⟨⟨hk.1.1, hk.1.2.2⟩, hk.2⟩)) hg hat); have n5_ := Aside0.mk (hb); have n6_ := Aside0.mk (ho); clear HO_5; clear BK101; clear HL112_0; clear HO122; clear HO133; clear HB; clear HO128; have HO_5 := n0_; have BK101 := n1_; have HL112_0 := n2_; have HO122 := n3_; have HO133 := n4_; have HB := n5_; have HO136 := n6_; clear n0_ n1_ n2_ n3_ n4_ n5_ n6_; clear ho hb hg hat))
                     go_roundg k4
                     case measure => have := HK1.out; have := HJ7.out; have := HK3.out; have := HK4.out; omega
                     case rel => exact ⟨(y134), (wrap64 (x15_1 + 1)), (by first | rfl | (simp; done) | (simp [*]; done)), H', ⟨by have := HK1.out; have := HJ7.out; have := HK3.out; have := HK4.out; omega⟩, ⟨by (with_reducible repeat (first | apply Kd.N_alloc | apply Kd.N_drewN | apply Kd.N_drew)); (first | exact HO136.out | exact R_any HO136.out)⟩, ⟨blc⟩, ⟨bel HB⟩⟩
                    ·rw [if_neg c38] at H
                     exact absurd H (by simp)
                   ·rw [if_neg c35] at H
                    exact absurd H (by simp)
                  ·rw [if_neg c34] at H
                   exact absurd H (by simp)
                 ·rw [if_neg c33] at H
                  exact absurd H (by simp)
               ·rw [if_neg c26] at H
                exact absurd H (by simp)
              ·rw [if_neg c25] at H
               have c25b0 : decide (x10_4 < (x5_1.length : Int)) = false := decide_eq_false c25;clear c25;obtain ⟨y137, hy137⟩ : ∃ y_ : List (List Int), y_ = (([] : List (List Int))) := ⟨_, rfl⟩;replace H : (if 0 ≤ x10_4 then (if x10_4 ≤ (x5_1.length : Int) then ((some (x5_1.take (x10_4 : Int).toNat : List (List Int))).bind fun y140 => (if y137.length + y140.length < 5864062014805 then ((some (y137 ++ y140 : List (List Int))).bind fun y145 => (if y145.length < 5864062014805 then ((some (y145 ++ [x8_3] : List (List Int))).bind fun y148 => ((some (x5_1.drop (x10_4 : Int).toNat : List (List Int))).bind fun y151 => (if y148.length + y151.length < 5864062014805 then (spec_tiStretches.l0 k4 a1 (y148 ++ y151) l0_2 (l0_2.length : Int) (wrap64 (x15_1 + 1)) a0_0 a0_1 l0_2) else (none)))) else (none))) else (none))) else (none)) else (none)) = some r := rH hy137 H;have Ny137 := Aside0.mk hy137;clear hy137
               by_cases c48 : 0 ≤ x10_4
               ·rw [if_pos c48] at H
                have c48b0 := eq_true c48;have c48b1 : decide (0 ≤ x10_4) = true := decide_eq_true c48;clear c48
                by_cases c49 : x10_4 ≤ (x5_1.length : Int)
                ·rw [if_pos c49] at H
                 have c49b0 := eq_true c49;have c49b1 : decide (x10_4 ≤ (x5_1.length : Int)) = true := decide_eq_true c49;clear c49;obtain ⟨y140, hy140⟩ : ∃ y_ : List (List Int), y_ = (x5_1.take (x10_4 : Int).toNat) := ⟨_, rfl⟩;replace H : (if y137.length + y140.length < 5864062014805 then ((some (y137 ++ y140 : List (List Int))).bind fun y145 => (if y145.length < 5864062014805 then ((some (y145 ++ [x8_3] : List (List Int))).bind fun y148 => ((some (x5_1.drop (x10_4 : Int).toNat : List (List Int))).bind fun y151 => (if y148.length + y151.length < 5864062014805 then (spec_tiStretches.l0 k4 a1 (y148 ++ y151) l0_2 (l0_2.length : Int) (wrap64 (x15_1 + 1)) a0_0 a0_1 l0_2) else (none)))) else (none))) else (none)) = some r := rH hy140 H;have Ny140 := Aside0.mk hy140;clear hy140
                 by_cases c50 : y137.length + y140.length < 5864062014805
                 ·rw [if_pos c50] at H
                  have LMc50 := Aside0.mk c50;clear c50;obtain ⟨y145, hy145⟩ : ∃ y_ : List (List Int), y_ = (y137 ++ y140) := ⟨_, rfl⟩;replace H : (if y145.length < 5864062014805 then ((some (y145 ++ [x8_3] : List (List Int))).bind fun y148 => ((some (x5_1.drop (x10_4 : Int).toNat : List (List Int))).bind fun y151 => (if y148.length + y151.length < 5864062014805 then (spec_tiStretches.l0 k4 a1 (y148 ++ y151) l0_2 (l0_2.length : Int) (wrap64 (x15_1 + 1)) a0_0 a0_1 l0_2) else (none)))) else (none)) = some r := rH hy145 H;have Ny145 := Aside0.mk hy145;clear hy145
                  by_cases c51 : y145.length < 5864062014805
                  ·rw [if_pos c51] at H
                   have LMc51 := Aside0.mk c51;clear c51;obtain ⟨y148, hy148⟩ : ∃ y_ : List (List Int), y_ = (y145 ++ [x8_3]) := ⟨_, rfl⟩;replace H : ((some (x5_1.drop (x10_4 : Int).toNat : List (List Int))).bind fun y151 => (if y148.length + y151.length < 5864062014805 then (spec_tiStretches.l0 k4 a1 (y148 ++ y151) l0_2 (l0_2.length : Int) (wrap64 (x15_1 + 1)) a0_0 a0_1 l0_2) else (none))) = some r := rH hy148 H;have Ny148 := Aside0.mk hy148;clear hy148;have c52b0 := eq_true (of_decide_eq_true (by first | (with_reducible assumption) | assumption) : 0 ≤ x10_4);have c53b0 := eq_true (of_decide_eq_true (by first | (with_reducible assumption) | assumption) : x10_4 ≤ (x5_1.length : Int));obtain ⟨y151, hy151⟩ : ∃ y_ : List (List Int), y_ = (x5_1.drop (x10_4 : Int).toNat) := ⟨_, rfl⟩;replace H : (if y148.length + y151.length < 5864062014805 then (spec_tiStretches.l0 k4 a1 (y148 ++ y151) l0_2 (l0_2.length : Int) (wrap64 (x15_1 + 1)) a0_0 a0_1 l0_2) else (none)) = some r := rH hy151 H;have Ny151 := Aside0.mk hy151;clear hy151
                   by_cases c54 : y148.length + y151.length < 5864062014805
                   ·rw [if_pos c54] at H
                    have LMc54 := Aside0.mk c54;clear c54;obtain ⟨y156, hy156⟩ : ∃ y_ : List (List Int), y_ = (y148 ++ y151) := ⟨_, rfl⟩;replace H : (spec_tiStretches.l0 k4 a1 y156 l0_2 (l0_2.length : Int) (wrap64 (x15_1 + 1)) a0_0 a0_1 l0_2) = some r := rH hy156 H;have Ny156 := Aside0.mk hy156;clear hy156;have H' := Aside0.mk H;clear H;obtain ⟨Ao55, co55, eo55⟩ := Kd.N_slice HO_5.out;subst eo55
                    go_wp2_with (first | ((with_reducible refine gate_dst (N := 65) rfl ?_); refine Kd.N_lit (Kd.slice 3 (Kd.int .i64)) _ 39 ?hg (N' := 65) ?hd (xs := ([] : List (List Int))) (inner := []) (ok := (fun k_ => (w.heap.size ≤ k_) ∧ some k_ ≠ (.slice Ao55 x5_1.length co55 : Value).ownBlock ∧ some k_ ≠ (u8 : Value).ownBlock ∧ k_ ≠ gb101)) (okp := (fun k_ => (w.heap.size ≤ k_) ∧ some k_ ≠ (.slice Ao55 x5_1.length co55 : Value).ownBlock ∧ some k_ ≠ (u8 : Value).ownBlock ∧ k_ ≠ gb101)) ?hr ?hp (fun _ hk => hk) ((show ∀ k_, wr.heap.size ≤ k_ → (fun k_ => (w.heap.size ≤ k_) ∧ some k_ ≠ (.slice Ao55 x5_1.length co55 : Value).ownBlock ∧ some k_ ≠ (u8 : Value).ownBlock ∧ k_ ≠ gb101) k_ from fun k_ hk => ⟨(Nat.le_trans (below_size (bel HB)) hk), Kd.fresh' (Kd.N_lt (by (with_reducible repeat (first | apply Kd.N_alloc | apply Kd.N_drewN | apply Kd.N_drew)); (first | exact HO_5.out | exact R_any HO_5.out))) k_ hk, Kd.fresh' (Kd.R_lt (rch HO_8)) k_ hk, Kd.freshB (g := gb101) (o := .cells #[.int .i64 a0_0, .int .i64 a0_1, .slice (some ad102) l0_2.length c0_2] 38 (0, 0)) blc k_ hk⟩) _ (Nat.le_refl _)) (Below.refl _ _) (Nat.le_refl _) (by simp) ?_; (case hd => rfl); (case hg => rfl); (case hr => first | (go_simp; done) | (go_simp; rfl)); (case hp => exact (Reps.none _ _)); intro v138 w56 ho57 hb hg_ hnew_; clear hg_ hnew_; (first | rw [← Ny137.out] at ho57 | (simp only [Int.reduceToNat] at ho57; rw [← Ny137.out] at ho57)); have n0_ := Aside0.mk (Kd.N_elder' (by (with_reducible repeat (first | apply Kd.N_alloc | apply Kd.N_drewN | apply Kd.N_drew)); (first | exact HO_5.out | exact R_any HO_5.out)) (Kd.N_base ho57) hb); have n1_ := Aside0.mk (Kd.R_below (rch HO_8) hb); have n2_ := Aside0.mk (Kd.N_lower ho57 (below_size (bel HB))); have n3_ := Aside0.mk (blk_below (g := gb101) (o := .cells #[.int .i64 a0_0, .int .i64 a0_1, .slice (some ad102) l0_2.length c0_2] 38 (0, 0)) blc hb); have n4_ := Aside0.mk (below_step (bel HB) hb); clear HO_5; clear HO_8; clear BK101; clear HB; have HO_5 := n0_; have HO_8 := n1_; have HO139 := n2_; have BK101 := n3_; have HB := n4_; clear n0_ n1_ n2_ n3_ n4_; clear hb ho57; have q58 : (x10_4 : Int) ≤ ((x5_1.length : Int) : Int) := of_decide_eq_true (by first | (with_reducible assumption) | assumption); obtain ⟨i058, hi058, _, hsz58, _⟩ := info_parts info39; have hroom58 : x5_1.length ≤ co55 := (Kd.N_reads' HO_5.out).2.1; have hC58 : Kd.F (Kd.slice 3 (Kd.int .i64)) _ _ Ao55 x5_1.length x5_1 := (Kd.V_at (base := w.heap.size) (Kd.N_V HO_5.out)).2.2; have hcut58 := cut_to (P := Tryz.prog) 44 39 .i64 Tryz.underlying44 hi058 Ao55 x5_1.length co55 x10_4 (of_decide_eq_true (by first | (with_reducible assumption) | assumption)) q58 hroom58; have hr58 := Kd.F_take (m := (x10_4 : Int).toNat) hC58 (by omega); have hy58 : y140.length = (x10_4 : Int).toNat := (by rw [Ny140.out, List.length_take]; omega); rw [← Ny140.out] at hr58; rw [← hy58] at hcut58; have HO144 := Aside0.mk (show Kd.V (Kd.slice 3 (Kd.int .i64)) 39 _ w.heap.size _ (.slice Ao55 y140.length co55) y140 from Kd.V_mk (by omega) hr58); have HC144 := Aside0.mk (show y140.length ≤ co55 from by omega); clear hr58 hC58 hroom58 hi058 hsz58; have KY58 := Aside0.mk hy58; clear hy58; replace q58 := eq_true q58) | ((with_reducible refine gate_builtin (b := .append) (xs := #[.tmp 65, .tmp 68]) rfl ?_); at_builtin; refine Kd.N_append_rows (Kd.slice 3 (Kd.int .i64)) (w0 := w) w.heap.size rfl (.tmp 65) (.tmp 68) 44 39 (.slice none 0 0) 24 rfl Tryz.underlying44 info39 rfl (by decide) (by omega) v138 y137 y140 _ _ _ (fun k_ => (w.heap.size ≤ k_) ∧ some k_ ≠ (u8 : Value).ownBlock ∧ k_ ≠ gb101) (fun k_ => ((fun k_ => (w.heap.size ≤ k_) ∧ some k_ ≠ (u8 : Value).ownBlock ∧ k_ ≠ gb101)) k_ ∧ some k_ ≠ (v138 : Value).ownBlock) rfl rfl ?aO ?aR (fun _ hk => hk) ?aF ?aB ?aS ?aL ?_; (case aR => exact (by skip; exact Kd.V_F (Kd.V_mono (ok' := (fun k_ => ((fun k_ => (w.heap.size ≤ k_) ∧ some k_ ≠ (u8 : Value).ownBlock ∧ k_ ≠ gb101)) k_ ∧ some k_ ≠ (v138 : Value).ownBlock)) (HO144.out) (fun k_ hk => ⟨⟨hk.1.1, ⟨hk.1.2.1, hk.1.2.2⟩⟩, hk.2⟩)))); (case aB => exact (bel HB)); (case aF => exact (fun k_ hk => ⟨(Nat.le_trans (below_size (bel HB)) hk), Kd.fresh' (Kd.R_lt (rch HO_8)) k_ hk, Kd.freshB (g := gb101) (o := .cells #[.int .i64 a0_0, .int .i64 a0_1, .slice (some ad102) l0_2.length c0_2] 38 (0, 0)) blc k_ hk⟩)); (case aO => exact (by (with_reducible repeat (first | apply Kd.N_alloc | apply Kd.N_drewN | apply Kd.N_drew)); exact Kd.N_mono HO139.out (fun _ hk => ⟨hk.1, ⟨hk.2.2.1, hk.2.2.2⟩⟩))); (case aS => exact (below_size (bel HB))); (case aL => have := LMc50.out; omega); intro v146 w59 ho hb hg hat; rw [← Ny145.out] at ho; have n0_ := Aside0.mk (Kd.N_afterv (ok := (fun k_ => (w.heap.size ≤ k_) ∧ some k_ ≠ (u8 : Value).ownBlock ∧ k_ ≠ gb101)) (by (with_reducible repeat (first | apply Kd.N_alloc | apply Kd.N_drewN | apply Kd.N_drew)); (first | exact HO_5.out | exact R_any HO_5.out)) hg hat); have n1_ := Aside0.mk (Kd.R_over' (rch HO_8) (Kd.N_typed (by (with_reducible repeat (first | apply Kd.N_alloc | apply Kd.N_drewN | apply Kd.N_drew)); (first | exact HO139.out | exact R_any HO139.out))) (by decide) hg); have n2_ := Aside0.mk (blk_grown (g := gb101) (o := .cells #[.int .i64 a0_0, .int .i64 a0_1, .slice (some ad102) l0_2.length c0_2] 38 (0, 0)) blc hg (Kd.N_ne HO139.out BK101.out (by decide))); have n3_ := Aside0.mk (Kd.V_afterv (ok := (fun k_ => (w.heap.size ≤ k_) ∧ some k_ ≠ (u8 : Value).ownBlock ∧ k_ ≠ gb101)) (by (with_reducible repeat (first | apply Kd.V_alloc | apply Kd.V_drewN | apply Kd.V_drew)); (first | exact HO144.out | exact R_any HO144.out)) hg hat); have n4_ := Aside0.mk (hb); have n5_ := Aside0.mk (ho); clear HO_5; clear HO_8; clear BK101; clear HO144; clear HB; clear HO139; have HO_5 := n0_; have HO_8 := n1_; have BK101 := n2_; have HO144 := n3_; have HB := n4_; have HO147 := n5_; clear n0_ n1_ n2_ n3_ n4_ n5_; clear ho hb hg hat; obtain ⟨Ao61, co61, eo61⟩ := Kd.R_slice HO_8.out; subst eo61) | ((with_reducible refine gate_builtin (b := .append) (xs := #[.tmp 69, .tmp 71]) rfl ?_); at_builtin; refine Kd.N_append (Kd.slice 3 (Kd.int .i64)) (w0 := w) w.heap.size rfl (.tmp 69) (.tmp 71) 44 39 (.slice none 0 0) 24 rfl Tryz.underlying44 info39 rfl (by decide) (by omega) v146 y145 x8_3 [.slice Ao61 x8_3.length co61] (fun k_ => (w.heap.size ≤ k_) ∧ k_ ≠ gb101) (fun k_ => ((fun k_ => (w.heap.size ≤ k_) ∧ k_ ≠ gb101)) k_ ∧ some k_ ≠ (v146 : Value).ownBlock) rfl rfl ?aP (fun _ hk => hk) ?aF ?aO ?aB ?aS ?aL ?_; (case aP => exact (Kd.FK_slice_mk (Kd.R_reads' (Kd.R_mono (ok' := (fun k_ => ((fun k_ => (w.heap.size ≤ k_) ∧ k_ ≠ gb101)) k_ ∧ some k_ ≠ (v146 : Value).ownBlock)) (Kd.R_types (Kd.R_apart' (HO_8.out) (Kd.N_typed HO147.out) (by decide)) BK101.out (by decide)) (fun k_ hk => ⟨⟨hk.1.1, hk.2⟩, hk.1.2⟩))).2.1 (Kd.R_F (Kd.R_mono (ok' := (fun k_ => ((fun k_ => (w.heap.size ≤ k_) ∧ k_ ≠ gb101)) k_ ∧ some k_ ≠ (v146 : Value).ownBlock)) (Kd.R_types (Kd.R_apart' (HO_8.out) (Kd.N_typed HO147.out) (by decide)) BK101.out (by decide)) (fun k_ hk => ⟨⟨hk.1.1, hk.2⟩, hk.1.2⟩))))); (case aB => exact (bel HB)); (case aF => exact (fun k_ hk => ⟨(Nat.le_trans (below_size (bel HB)) hk), Kd.freshB (g := gb101) (o := .cells #[.int .i64 a0_0, .int .i64 a0_1, .slice (some ad102) l0_2.length c0_2] 38 (0, 0)) blc k_ hk⟩)); (case aO => exact (by (with_reducible repeat (first | apply Kd.N_alloc | apply Kd.N_drewN | apply Kd.N_drew)); exact Kd.N_mono HO147.out (fun _ hk => ⟨hk.1, hk.2.2⟩))); (case aS => exact (below_size (bel HB))); (case aL => have := LMc51.out; omega); intro v149 w60 ho hb hg hat; rw [← Ny148.out] at ho; have n0_ := Aside0.mk (Kd.N_afterv (ok := (fun k_ => (w.heap.size ≤ k_) ∧ some k_ ≠ (.slice Ao61 x8_3.length co61 : Value).ownBlock ∧ k_ ≠ gb101)) (by (with_reducible repeat (first | apply Kd.N_alloc | apply Kd.N_drewN | apply Kd.N_drew)); (first | exact HO_5.out | exact R_any HO_5.out)) hg hat); have n1_ := Aside0.mk (blk_grown (g := gb101) (o := .cells #[.int .i64 a0_0, .int .i64 a0_1, .slice (some ad102) l0_2.length c0_2] 38 (0, 0)) blc hg (Kd.N_ne HO147.out BK101.out (by decide))); have n2_ := Aside0.mk (Kd.V_afterv (ok := (fun k_ => (w.heap.size ≤ k_) ∧ some k_ ≠ (.slice Ao61 x8_3.length co61 : Value).ownBlock ∧ k_ ≠ gb101)) (by (with_reducible repeat (first | apply Kd.V_alloc | apply Kd.V_drewN | apply Kd.V_drew)); (first | exact HO144.out | exact R_any HO144.out)) hg hat); have n3_ := Aside0.mk (hb); have n4_ := Aside0.mk (ho); clear HO_5; clear BK101; clear HO144; clear HB; clear HO147; clear HO_8; have HO_5 := n0_; have BK101 := n1_; have HO144 := n2_; have HB := n3_; have HO150 := n4_; clear n0_ n1_ n2_ n3_ n4_; clear ho hb hg hat; have q62 : (x10_4 : Int) ≤ ((x5_1.length : Int) : Int) := of_decide_eq_true (by first | (with_reducible assumption) | assumption); obtain ⟨i062, hi062, _, hsz62, _⟩ := info_parts info39; have hroom62 : x5_1.length ≤ co55 := (Kd.N_reads' HO_5.out).2.1; have hC62 : Kd.F (Kd.slice 3 (Kd.int .i64)) _ _ Ao55 x5_1.length x5_1 := (Kd.V_at (base := w.heap.size) (Kd.N_V HO_5.out)).2.2; have q062 : (0 : Int) ≤ (x10_4 : Int) := of_decide_eq_true (by first | (with_reducible assumption) | assumption); have hcut62 := cut_from (P := Tryz.prog) 44 39 .i64 Tryz.underlying44 hi062 1 hsz62 Ao55 x5_1.length co55 x10_4 q062 q62; have hr62 := Kd.F_cut (m := (x10_4 : Int).toNat) (c := co55) hC62 (by omega) hroom62; obtain ⟨A62, hA62⟩ : ∃ A1, A1 = (if co55 = (x10_4 : Int).toNat then Ao55 else (Ao55 : Option Addr).map (·.add ((x10_4 : Int).toNat * 1))) := ⟨_, rfl⟩; obtain ⟨c62, hc62⟩ : ∃ c1, c1 = co55 - (x10_4 : Int).toNat := ⟨_, rfl⟩; have hy62 : y151.length = x5_1.length - (x10_4 : Int).toNat := (by rw [Ny151.out, List.length_drop] <;> omega); rw [show (x5_1).drop (x10_4 : Int).toNat = y151 from Ny151.out.symm] at hr62; replace hr62 : Kd.F (Kd.slice 3 (Kd.int .i64)) _ _ A62 y151.length y151 := (by rw [hA62]; exact hr62); rw [← hy62, ← hA62, ← hc62] at hcut62; have HO155 := Aside0.mk (show Kd.V (Kd.slice 3 (Kd.int .i64)) 39 _ w.heap.size _ (.slice A62 y151.length c62) y151 from Kd.V_mk (by rw [hy62, hc62]; exact Nat.sub_le_sub_right hroom62 _) hr62); have HC155 := Aside0.mk (show y151.length ≤ c62 from by rw [hy62, hc62]; exact Nat.sub_le_sub_right hroom62 _); clear hr62 hC62 hroom62 hi062 hsz62 hc62; have KY62 := Aside0.mk hy62; have KA62 := Aside0.mk hA62; clear hy62 hA62; replace q62 := eq_true q62) | ((with_reducible refine gate_builtin (b := .append) (xs := #[.tmp 73, .tmp 76]) rfl ?_); at_builtin; refine Kd.N_append_rows (Kd.slice 3 (Kd.int .i64)) (w0 := w) w.heap.size rfl (.tmp 73) (.tmp 76) 44 39 (.slice none 0 0) 24 rfl Tryz.underlying44 info39 rfl (by decide) (by omega) v149 y148 y151 _ _ _ (fun k_ => (w.heap.size ≤ k_) ∧ k_ ≠ gb101) (fun k_ => ((fun k_ => (w.heap.size ≤ k_) ∧ k_ ≠ gb101)) k_ ∧ some k_ ≠ (v149 : Value).ownBlock) rfl rfl ?aO ?aR (fun _ hk => hk) ?aF ?aB ?aS ?aL ?_; (case aR => exact (by skip; exact Kd.V_F (Kd.V_mono (ok' := (fun k_ => ((fun k_ => (w.heap.size ≤ k_) ∧ k_ ≠ gb101)) k_ ∧ some k_ ≠ (v149 : Value).ownBlock)) (HO155.out) (fun k_ hk => ⟨⟨hk.1.1, hk.1.2.2⟩, hk.2⟩)))); (case aB => exact (bel HB)); (case aF => exact (fun k_ hk => ⟨(Nat.le_trans (below_size (bel HB)) hk), Kd.freshB (g := gb101) (o := .cells #[.int .i64 a0_0, .int .i64 a0_1, .slice (some ad102) l0_2.length c0_2] 38 (0, 0)) blc k_ hk⟩)); (case aO => exact (by (with_reducible repeat (first | apply Kd.N_alloc | apply Kd.N_drewN | apply Kd.N_drew)); (first | exact HO150.out | exact R_any HO150.out))); (case aS => exact (below_size (bel HB))); (case aL => have := LMc54.out; omega); intro v157 w63 ho hb hg hat; rw [← Ny156.out] at ho; have n0_ := Aside0.mk (Kd.N_afterv (ok := (fun k_ => (w.heap.size ≤ k_) ∧ k_ ≠ gb101)) (by (with_reducible repeat (first | apply Kd.N_alloc | apply Kd.N_drewN | apply Kd.N_drew)); exact Kd.N_mono HO_5.out (fun _ hk => ⟨⟨hk.1.1, hk.1.2.2⟩, hk.2⟩)) hg hat); have n1_ := Aside0.mk (blk_grown (g := gb101) (o := .cells #[.int .i64 a0_0, .int .i64 a0_1, .slice (some ad102) l0_2.length c0_2] 38 (0, 0)) blc hg (Kd.N_ne HO150.out BK101.out (by decide))); have n2_ := Aside0.mk (Kd.V_afterv (ok := (fun k_ => (w.heap.size ≤ k_) ∧ k_ ≠ gb101)) (by (with_reducible repeat (first | apply Kd.V_alloc | apply Kd.V_drewN | apply Kd.V_drew)); exact Kd.V_mono HO144.out (fun _ hk => ⟨⟨hk.1.1, hk.1.2.2⟩, hk.2⟩)) hg hat); have n3_ := Aside0.mk (Kd.V_afterv (ok := (fun k_ => (w.heap.size ≤ k_) ∧ k_ ≠ gb101)) (by (with_reducible repeat (first | apply Kd.V_alloc | apply Kd.V_drewN | apply Kd.V_drew)); exact Kd.V_mono HO155.out (fun _ hk => ⟨⟨hk.1.1, hk.1.2.2⟩, hk.2⟩)) hg hat); have n4_ := Aside0.mk (hb); have n5_ := Aside0.mk (ho); clear HO_5; clear BK101; clear HO144; clear HO155; clear HB; clear HO150; have HO_5 := n0_; have BK101 := n1_; have HO144 := n2_; have HO155 := n3_; have HB := n4_; have HO158 := n5_; clear n0_ n1_ n2_ n3_ n4_ n5_; clear ho hb hg hat))
                    go_roundg k4
                    case measure => have := HK1.out; have := HJ7.out; have := HK3.out; have := HK4.out; omega
                    case rel => exact ⟨(y156), (wrap64 (x15_1 + 1)), (by first | rfl | (simp; done) | (simp [*]; done)), H', ⟨by have := HK1.out; have := HJ7.out; have := HK3.out; have := HK4.out; omega⟩, ⟨by (with_reducible repeat (first | apply Kd.N_alloc | apply Kd.N_drewN | apply Kd.N_drew)); (first | exact HO158.out | exact R_any HO158.out)⟩, ⟨blc⟩, ⟨bel HB⟩⟩
                   ·rw [if_neg c54] at H
                    exact absurd H (by simp)
                  ·rw [if_neg c51] at H
                   exact absurd H (by simp)
                 ·rw [if_neg c50] at H
                  exact absurd H (by simp)
                ·rw [if_neg c49] at H
                 exact absurd H (by simp)
               ·rw [if_neg c48] at H
                exact absurd H (by simp)
     ·rw [if_neg c7] at H
      exact absurd H (by simp)
    ·rw [if_neg c6] at H
     exact absurd H (by simp)
   ·rw [if_neg c5] at H
    have c5b0 : decide (x15_1 < (l0_2.length : Int)) = false := decide_eq_false c5;clear c5;obtain rfl := Option.some.inj H
    go_wp2
    go_ret
    exact ⟨_, by first | rfl | (simp [errW_none, errW_some] <;> rfl) | (simp [*, errW_none, errW_some] <;> rfl), by (with_reducible repeat (first | apply Kd.N_alloc | apply Kd.N_drewN | apply Kd.N_drew)); exact Kd.N_mono HO_5.out (fun _ hk => hk.1), bel HB⟩
end Go.Proofs.YtchjgphnglklcaaGreatDoor.Q
end
section
namespace Go.Proofs.YtchjgphnglklcaaGreatDoor.Q
open Go.RowKit Go.Shelf Go.Proofs.YtchjgphnglklcaaGreatDoorW.PrintWords Go.Proofs.YtchjgphnglklcaaGreatDoorW.PrintLast Go.Proofs.YtchjgphnglklcaaGreatDoorW.PrintMore
set_option linter.unusedSectionVars false
theorem least_eq (a b : Int) : spec_l1Least.f a b = some (min a b) := by
 unfold spec_l1Least.f
 by_cases h : a < b
 ·rw [if_pos h, show min a b = a by omega]
 ·rw [if_neg h, show min a b = b by omega]
theorem first_l0 (L : List Int) : ∀ (l : List Int) (u : Nat) (a : Int), L.drop u = l → u ≤ L.length → u + l.length ≤ 1000 → Ev (fun k => spec_tiFirst.l0 k a L (L.length : Int) (u : Int)) (l.foldl min a)
 | [], u, a, hd, hu, _ => by
  have hL : u = L.length := by
   have := congrArg List.length hd
   simp at this
   omega
  subst hL
  refine Ev.step (Ev.const rfl) fun k => ?_
  simp only [spec_tiFirst.l0]
  rw [if_neg (by omega)]
  rfl
 | x :: l, u, a, hd, _, hq => by
  obtain ⟨h1, h2, h3⟩ := rd_drop hd
  simp only [List.length_cons] at hq
  refine Ev.step (first_l0 L l (u + 1) (min a x) h3 h1 (by omega)) fun k => ?_
  simp only [spec_tiFirst.l0]
  rw [if_pos (by omega), if_pos (by omega), if_pos (by omega), h2, least_eq, Option.bind_some, wr1 u (by omega)]
theorem first_ev (s : List Int) (h : s ≠ []) (hl : s.length ≤ 1000) : Ev (fun k => spec_tiFirst.f k s) (Lib.minOf s) := by
 have h1 := List.length_pos_iff.2 h
 cases s with
 | nil => exact absurd rfl h
 | cons x l =>
  refine Ev.congr (first_l0 (x :: l) (x :: l) 0 x rfl (Nat.zero_le _) (by omega)) fun k => ?_
  unfold spec_tiFirst.f
  rw [if_pos (by omega)]
  rfl
def insM (s : List Int) : List (List Int) → List (List Int)
 | [] => [s]
 | t :: L => if Lib.minOf t < Lib.minOf s then t :: insM s L else s :: t :: L
theorem insM_perm (s : List Int) : ∀ L, (insM s L).Perm (s :: L)
 | [] => List.Perm.refl _
 | t :: L => by
  unfold insM
  split
  ·exact ((insM_perm s L).cons t).trans (List.Perm.swap s t L)
  ·exact List.Perm.refl _
theorem insM_sorted (s : List Int) : ∀ L : List (List Int), L.Pairwise (fun a b => Lib.minOf a ≤ Lib.minOf b) → (insM s L).Pairwise (fun a b => Lib.minOf a ≤ Lib.minOf b)
 | [], _ => List.pairwise_singleton _ _
 | t :: L, h => by
  obtain ⟨h1, h2⟩ := List.pairwise_cons.1 h;unfold insM
  split
  ·rename_i hlt
   refine List.pairwise_cons.2 ⟨fun x hx => ?_, insM_sorted s L h2⟩
   rcases List.mem_cons.1 ((insM_perm s L).subset hx) with rfl | hx
   ·omega
   ·exact h1 x hx
  ·rename_i hge
   refine List.pairwise_cons.2 ⟨fun x hx => ?_, h⟩
   rcases List.mem_cons.1 hx with rfl | hx
   ·omega
   ·have := h1 x hx
    omega
theorem sort_same : ∀ A B : List (List Int), A.Perm B → A.Pairwise (fun a b => Lib.minOf a < Lib.minOf b) → B.Pairwise (fun a b => Lib.minOf a < Lib.minOf b) → A = B
 | [], B, hp, _, _ => hp.nil_eq
 | a :: A, [], hp, _, _ => by have := hp.length_eq; simp at this
 | a :: A, b :: B, hp, ha, hb => by
  obtain ⟨a1, a2⟩ := List.pairwise_cons.1 ha;obtain ⟨b1, b2⟩ := List.pairwise_cons.1 hb
  have hab : a = b := by
   rcases List.mem_cons.1 (hp.subset List.mem_cons_self) with h | h
   ·exact h
   ·rcases List.mem_cons.1 (hp.symm.subset List.mem_cons_self) with h2 | h2
    ·exact h2.symm
    ·have := b1 a h
     have := a1 b h2
     omega
  subst hab
  rw [sort_same A B ((List.perm_cons a).1 hp) a2 b2]
theorem strict_of {L : List (List Int)} (h : L.Pairwise fun a b => Lib.minOf a ≤ Lib.minOf b) (hn : (L.map Lib.minOf).Nodup) : L.Pairwise fun a b => Lib.minOf a < Lib.minOf b := by
 have h2 : L.Pairwise fun a b => Lib.minOf a ≠ Lib.minOf b := List.pairwise_map.1 hn
 exact (h.and h2).imp fun ⟨h3, h4⟩ => by omega
theorem rdL_app (A B : List (List Int)) (t : List Int) : rd_Lii (A ++ t :: B) (A.length : Int) = t := by
 unfold rd_Lii
 rw [Int.toNat_natCast, List.getD_eq_getElem?_getD, List.getElem?_append_right (Nat.le_refl _), Nat.sub_self]
 rfl
theorem ins_l2 (d : Int) (own : List Int) (ho : own ≠ []) (hol : own.length ≤ 1000) (c : List Int) (n i w h : Int) (cs : List Int) (r : List (List Int)) : ∀ (B A : List (List Int)), (∀ t ∈ B, t ≠ [] ∧ t.length ≤ 1000) → A.length + B.length ≤ 500 →
  Ev (fun k => spec_tiStretches.l0 k d (A ++ insM own B) c n (wrap64 (i + 1)) w h cs) r → Ev (fun k => spec_tiStretches.l2 k d (A ++ B) own (A.length : Int) c n i w h cs) r
 | [], A, _, hl, hE => by
  simp only [List.length_nil] at hl
  refine Ev.step hE fun k => ?_
  simp only [spec_tiStretches.l2, Option.bind_some, List.append_nil, List.nil_append, insM]
  rw [if_neg (by omega), if_pos (by omega), if_pos (by omega), Int.toNat_natCast, List.take_length, List.drop_length, if_pos (by simp; omega), if_pos (by omega), if_pos (by simp; omega), List.append_nil]
 | t :: B, A, hb, hl, hE => by
  simp only [List.length_cons] at hl
  obtain ⟨t1, t2⟩ := hb t List.mem_cons_self
  have hlen : (A.length : Int) < ((A ++ t :: B).length : Int) := by simp; omega
  unfold insM at hE;obtain ⟨k1, e1⟩ := first_ev t t1 t2;obtain ⟨k2, e2⟩ := first_ev own ho hol
  by_cases hlt : Lib.minOf t < Lib.minOf own
  ·rw [if_pos hlt] at hE
   have ih := ins_l2 d own ho hol c n i w h cs r B (A ++ [t]) (fun x hx => hb x (List.mem_cons_of_mem _ hx)) (by simp; omega) (by rw [List.append_assoc]; exact hE)
   rw [List.append_assoc, List.singleton_append, List.length_append, List.length_singleton, ← wr1 A.length (by omega)] at ih
   obtain ⟨k3, e3⟩ := ih
   refine ⟨k1 + k2 + k3 + 1, fun k hk => ?_⟩
   obtain ⟨k, rfl⟩ : ∃ k', k = k' + 1 := ⟨k - 1, by omega⟩
   simp only [spec_tiStretches.l2]
   rw [if_pos hlen, if_pos (by omega), rdL_app, show spec_tiFirst.f k t = some (Lib.minOf t) from e1 k (by omega), Option.bind_some, show spec_tiFirst.f k own = some (Lib.minOf own) from e2 k (by omega), Option.bind_some, if_pos hlt]
   exact e3 k (by omega)
  ·rw [if_neg hlt] at hE
   obtain ⟨k3, e3⟩ := hE
   refine ⟨k1 + k2 + k3 + 1, fun k hk => ?_⟩
   obtain ⟨k, rfl⟩ : ∃ k', k = k' + 1 := ⟨k - 1, by omega⟩
   simp only [spec_tiStretches.l2]
   rw [if_pos hlen, if_pos (by omega), rdL_app, show spec_tiFirst.f k t = some (Lib.minOf t) from e1 k (by omega), Option.bind_some, show spec_tiFirst.f k own = some (Lib.minOf own) from e2 k (by omega), Option.bind_some, if_neg hlt]
   simp only [Option.bind_some, List.nil_append, Int.toNat_natCast, List.take_left', List.drop_left', List.take_left, List.drop_left]
   rw [if_pos (by omega), if_pos (by simp; omega), if_pos (by omega), if_pos (by simp; omega), List.append_assoc, List.singleton_append]
   exact e3 k (by omega)
def lf (w h i d : Nat) : Nat := if d = 0 then i / w else if d = 1 then w - 1 - i % w else if d = 2 then h - 1 - i / w else i % w
theorem lf_all : ∀ (w h : Fin 8) (i : Fin 36) (d : Fin 4), i.val < w.val * h.val → lf w.val h.val i.val d.val ≤ 6 ∧ (0 ≤ an w.val h.val i.val d.val → lf w.val h.val (an w.val h.val i.val d.val).toNat d.val < lf w.val h.val i.val d.val) := by decide +kernel
theorem back_all : ∀ d : Fin 4, Int.tmod (wrap64 ((d.val : Int) + 2)) 4 = (((d.val + 2) % 4 : Nat) : Int) := by decide +kernel
theorem strW_len (w h : Nat) (cs : List Int) (e : Nat) : ∀ (m : Nat) (x : Int), (strW w h cs e m x).length ≤ m
 | 0, _ => Nat.le_refl _
 | m + 1, x => by
  unfold strW
  rw [List.length_cons]
  split
  ·simp
  ·have := strW_len w h cs e m (aN w h cs e x.toNat)
   omega
section
variable {w h : Nat} {cs : List Int} (hw : w ≤ 7) (hh : h ≤ 7) (hs : w * h ≤ 36) {d : Nat} (hd : d < 4) (hn : cs.length = w * h)
include hw hh hs hd hn
theorem own_l1 (c : List Int) (n i : Int) (out : List (List Int)) (r : List (List Int)) : ∀ (m : Nat) (x : Int) (own : List Int), 0 ≤ x → x < ((w * h : Nat) : Int) → lf w h x.toNat ((d + 2) % 4) < m → own.length + m ≤ 500 →
  Ev (fun k => spec_tiStretches.l2 k d out (own ++ strW w h cs ((d + 2) % 4) m x) 0 c n i w h cs) r → Ev (fun k => spec_tiStretches.l1 k d out own x c n i w h cs) r
 | 0, x, own, _, _, hl, _, _ => absurd hl (Nat.not_lt_zero _)
 | m + 1, x, own, x0, x1, hl, ho, hE => by
  have he : (d + 2) % 4 < 4 := Nat.mod_lt _ (by omega)
  have hxt : x.toNat < w * h := by omega
  have hA := aN_eq hw hh hs hxt he cs hn
  rw [Int.toNat_of_nonneg x0, ← back_all ⟨d, hd⟩] at hA
  obtain ⟨_, l2⟩ := lf_all ⟨w, by omega⟩ ⟨h, by omega⟩ ⟨x.toNat, by omega⟩ ⟨(d + 2) % 4, he⟩ hxt;have hlt := aN_lt hw hh hs hxt he cs;unfold strW at hE
  have h1 : Ev (fun k => spec_tiStretches.l1 k d out (own ++ [x]) (aN w h cs ((d + 2) % 4) x.toNat) c n i w h cs) r := by
   by_cases hz : aN w h cs ((d + 2) % 4) x.toNat < 0
   ·rw [if_pos hz] at hE
    refine Ev.step hE fun k => ?_
    simp only [spec_tiStretches.l1]
    rw [if_neg (by omega)]
   ·rw [if_neg hz] at hE
    have ha : aN w h cs ((d + 2) % 4) x.toNat = an w h x.toNat ((d + 2) % 4) := by
     unfold aN at hz ⊢
     split
     ·rename_i h5
      rw [if_pos h5] at hz
      omega
     ·rename_i h5
      rw [if_neg h5] at hz
      split
      ·rename_i h6
       rw [if_pos h6] at hz
       omega
      ·rfl
    simp only at l2
    have h6 := l2 (by omega)
    refine own_l1 c n i out r m _ (own ++ [x]) (by omega) hlt (by rw [ha]; omega) (by simp; omega) ?_
    rw [List.append_assoc]
    exact hE
  refine Ev.step h1 fun k => ?_
  simp only [spec_tiStretches.l1]
  rw [if_pos (by omega), if_pos (by omega), hA, Option.bind_some]
def sts (w h : Nat) (cs : List Int) (d : Nat) : Nat → Nat → List (List Int) → List (List Int)
 | 0, _, out => out
 | m + 1, j, out => if rd cs (j : Int) = 35 then sts w h cs d m (j + 1) out else if 0 ≤ aN w h cs d j then sts w h cs d m (j + 1) out else sts w h cs d m (j + 1) (insM (strW w h cs ((d + 2) % 4) 36 (j : Int)) out)
theorem sts_l0 : ∀ (m j : Nat) (out : List (List Int)), j + m = w * h → (∀ t ∈ out, t ≠ [] ∧ t.length ≤ 1000) → out.length + m ≤ 400 → Ev (fun k => spec_tiStretches.l0 k d out cs (cs.length : Int) (j : Int) w h cs) (sts w h cs d m j out)
 | 0, j, out, hj, _, _ => by
  refine Ev.step (Ev.const rfl) fun k => ?_
  simp only [spec_tiStretches.l0]
  rw [if_neg (by omega)]
  rfl
 | m + 1, j, out, hj, hb, hl => by
  have hjt : j < w * h := by omega
  have he : (d + 2) % 4 < 4 := Nat.mod_lt _ (by omega);have hA := aN_eq hw hh hs hjt hd cs hn;have hB := aN_eq hw hh hs hjt he cs hn
  rw [← back_all ⟨d, hd⟩] at hB
  simp only at hB
  unfold sts
  by_cases h35 : rd cs (j : Int) = 35
  ·rw [if_pos h35]
   have ih := sts_l0 m (j + 1) out (by omega) hb (by omega)
   rw [← wr1 j (by omega)] at ih
   refine Ev.step (Ev.step (g := fun k => spec_tiStretches.j1 k d out j cs (cs.length : Int) j true w h cs) ih fun k => ?_) fun k => ?_
   ·simp only [spec_tiStretches.j1, if_true]
   ·simp only [spec_tiStretches.l0]
    rw [if_pos (by omega), if_pos (by omega), if_pos (by omega), if_pos h35]
  ·rw [if_neg h35]
   by_cases h0 : 0 ≤ aN w h cs d j
   ·rw [if_pos h0]
    have ih := sts_l0 m (j + 1) out (by omega) hb (by omega)
    rw [← wr1 j (by omega)] at ih
    refine Ev.step (Ev.step (g := fun k => spec_tiStretches.j1 k d out j cs (cs.length : Int) j true w h cs) ih fun k => ?_) fun k => ?_
    ·simp only [spec_tiStretches.j1, if_true]
    ·simp only [spec_tiStretches.l0]
     rw [if_pos (by omega), if_pos (by omega), if_pos (by omega), if_neg h35, hA, Option.bind_some, decide_eq_true (by omega)]
   ·rw [if_neg h0]
    have hne : strW w h cs ((d + 2) % 4) 36 (j : Int) ≠ [] := by
     unfold strW
     simp
    have hsl := strW_len w h cs ((d + 2) % 4) 36 (j : Int);have hip := (insM_perm (strW w h cs ((d + 2) % 4) 36 (j : Int)) out)
    have ih := sts_l0 m (j + 1) (insM (strW w h cs ((d + 2) % 4) 36 (j : Int)) out) (by omega) (fun t ht => by
     rcases List.mem_cons.1 (hip.subset ht) with rfl | ht
     ·exact ⟨hne, by omega⟩
     ·exact hb t ht) (by rw [hip.length_eq, List.length_cons]; omega)
    rw [← wr1 j (by omega)] at ih
    have h2 := ins_l2 d _ hne (by omega) cs (cs.length : Int) j w h cs _ out [] hb (by simp; omega) ih
    have h3 : ∀ R, Ev (fun k => spec_tiStretches.l2 k d out (strW w h cs ((d + 2) % 4) 36 (j : Int)) 0 cs (cs.length : Int) j w h cs) R → Ev (fun k => spec_tiStretches.l1 k d out [(j : Int)] (aN w h cs ((d + 2) % 4) j) cs (cs.length : Int) j w h cs) R := by
     intro R h2;unfold strW at h2
     rw [Int.toNat_natCast] at h2
     by_cases hz : aN w h cs ((d + 2) % 4) j < 0
     ·rw [if_pos hz] at h2
      refine Ev.step h2 fun k => ?_
      simp only [spec_tiStretches.l1]
      rw [if_neg (by omega)]
     ·rw [if_neg hz] at h2
      obtain ⟨l1, l2⟩ := lf_all ⟨w, by omega⟩ ⟨h, by omega⟩ ⟨(aN w h cs ((d + 2) % 4) j).toNat, by have := aN_lt hw hh hs hjt he cs; omega⟩ ⟨(d + 2) % 4, he⟩ (by have := aN_lt hw hh hs hjt he cs; simp only; omega)
      exact own_l1 hw hh hs hd hn cs (cs.length : Int) j out _ 35 _ [(j : Int)] (by omega) (aN_lt hw hh hs hjt he cs) (by simp only at l1; omega) (by simp) h2
    refine Ev.step (Ev.step (g := fun k => spec_tiStretches.j1 k d out j cs (cs.length : Int) j false w h cs) (h3 _ h2) fun k => ?_) fun k => ?_
    ·simp only [spec_tiStretches.j1, Bool.false_eq_true, if_false]
     rw [hB, Option.bind_some]
    ·simp only [spec_tiStretches.l0]
     rw [if_pos (by omega), if_pos (by omega), if_pos (by omega), if_neg h35, hA, Option.bind_some, decide_eq_false (by omega)]
end
theorem sts_perm (w h : Nat) (cs : List Int) (d : Nat) : ∀ (m j : Nat) (out : List (List Int)), (sts w h cs d m j out).Perm (out ++ (((List.range' j m).filter fun i : Nat => decide (rd cs (i : Int) ≠ 35) && decide (aN w h cs d i < 0)).map fun i : Nat => strW w h cs ((d + 2) % 4) 36 (i : Int)))
 | 0, j, out => by simp [sts]
 | m + 1, j, out => by
  rw [List.range'_succ]
  unfold sts
  split
  ·rename_i h1
   rw [List.filter_cons_of_neg (by simp [h1])]
   exact sts_perm w h cs d m (j + 1) out
  ·rename_i h1
   split
   ·rename_i h2
    rw [List.filter_cons_of_neg (by simp; omega)]
    exact sts_perm w h cs d m (j + 1) out
   ·rename_i h2
    rw [List.filter_cons_of_pos (by simp [h1]; omega), List.map_cons]
    refine (sts_perm w h cs d m (j + 1) _).trans ?_
    refine ((insM_perm _ out).append_right _).trans ?_
    exact List.perm_middle.symm
theorem sts_sorted (w h : Nat) (cs : List Int) (d : Nat) : ∀ (m j : Nat) (out : List (List Int)), out.Pairwise (fun a b => Lib.minOf a ≤ Lib.minOf b) → (sts w h cs d m j out).Pairwise (fun a b => Lib.minOf a ≤ Lib.minOf b)
 | 0, _, _, hp => hp
 | m + 1, j, out, hp => by
  unfold sts
  split
  ·exact sts_sorted w h cs d m (j + 1) out hp
  ·split
   ·exact sts_sorted w h cs d m (j + 1) out hp
   ·exact sts_sorted w h cs d m (j + 1) _ (insM_sorted _ out hp)
section
variable {w h : Nat} {cs : List Int} (hw : w ≤ 7) (hh : h ≤ 7) (hs : w * h ≤ 36) {d : Nat} (hd : d < 4)
include hw hh hs hd
theorem str_sorted : (strL w h cs d).Pairwise fun a b => Lib.minOf a < Lib.minOf b := by
 have h1 : (strL w h cs d).Pairwise fun a b => leM a b = true := List.pairwise_mergeSort (fun a b c h1 h2 => by
  unfold leM at *
  simp only [decide_eq_true_eq] at *
  omega) (fun a b => by
  unfold leM
  simp only [Bool.or_eq_true, decide_eq_true_eq]
  omega) _
 refine strict_of (h1.imp fun h2 => by unfold leM at h2; simpa using h2) ?_
 have h3 := mins_nodup (cuts_nodup hw hh hs hd (cs := cs)) (cuts_ne hw hh hs hd)
 exact ((List.mergeSort_perm (cutsL w h cs d) leM).map Lib.minOf).nodup_iff.2 h3
theorem sts_eq : sts w h cs d (w * h) 0 [] = strL w h cs d := by
 have hp : (sts w h cs d (w * h) 0 []).Perm (cutsL w h cs d) := by
  refine (sts_perm w h cs d (w * h) 0 []).trans ?_
  refine List.Perm.trans ?_ (cuts_perm hw hh hs hd (cs := cs)).symm
  rw [List.nil_append]
  unfold startsL
  rw [List.map_map, List.range_eq_range']
  exact List.Perm.refl _
 refine sort_same _ _ (hp.trans (List.mergeSort_perm _ leM).symm) ?_ (str_sorted hw hh hs hd)
 refine strict_of (sts_sorted w h cs d _ _ [] List.Pairwise.nil) ?_
 exact (hp.map Lib.minOf).nodup_iff.2 (mins_nodup (cuts_nodup hw hh hs hd (cs := cs)) (cuts_ne hw hh hs hd))
theorem tiStretches_ev (hn : cs.length = w * h) : Ev (fun k => spec_tiStretches.f k w h cs d) (strL w h cs d) := by
 rw [← sts_eq hw hh hs hd]
 unfold spec_tiStretches.f
 exact sts_l0 hw hh hs hd hn (w * h) 0 [] (by omega) (fun _ ht => by cases ht) (by simp; omega)
end
end Go.Proofs.YtchjgphnglklcaaGreatDoor.Q
end
section
namespace Go.Proofs.YtchjgphnglklcaaGreatDoor.Q
open Go.RowKit Go.Shelf Go.Proofs.YtchjgphnglklcaaGreatDoorW.PrintWords Go.Proofs.YtchjgphnglklcaaGreatDoorW.PrintLast Go.Proofs.YtchjgphnglklcaaGreatDoorW.PrintMore
theorem bytes_at {w : World} {A : Option Addr} {l : List Int} (h : Kd.C (Kd.int .u8) w A l.length l) (h0 : 1 ≤ l.length) : ∃ b off, A = some ⟨b, off, none⟩ ∧ b < w.heap.size ∧ ∀ j, j < l.length → w.cell? ⟨b, off + j, none⟩ = some (.int .u8 (l.getD j 0)) := by
 obtain ⟨ad, rfl, _⟩ := Kd.at_int h 0 (by omega) (by omega)
 have hx : ∀ j : Nat, j < l.length → w.cell? (ad.add j) = some (.int .u8 (l.getD j 0)) := fun j hj => by
  obtain ⟨ad2, e2, h2⟩ := Kd.at_int h (j : Int) (by omega) (by omega)
  cases e2
  rw [Int.toNat_natCast] at h2
  rw [h2]
  unfold rd
  rw [Int.toNat_natCast]
 have h00 := hx 0 (by omega)
 have hsp : ad.spot = none := by
  rcases hs : ad.spot with _ | z
  ·rfl
  ·rw [Addr.add, if_pos rfl] at h00
   unfold World.cell? at h00
   split at h00
   ·rw [hs] at h00
    simp at h00
   ·cases h00
 obtain ⟨bk, o, sp⟩ := ad;obtain rfl : sp = none := hsp
 refine ⟨bk, o, rfl, ?_, fun j hj => ?_⟩
 ·have := World.block_lt_of_cell? _ _ h00
  rw [Addr.add, if_pos rfl] at this
  exact this
 ·have h2 := hx j hj
  rw [Addr.add] at h2
  split at h2
  ·rename_i hz
   subst hz
   exact h2
  ·exact h2
end Go.Proofs.YtchjgphnglklcaaGreatDoor.Q
end
section
namespace Go.Proofs.YtchjgphnglklcaaGreatDoor.Q
open Go.RowKit Go.Shelf Go.Proofs.YtchjgphnglklcaaGreatDoorW.PrintWords Go.Proofs.YtchjgphnglklcaaGreatDoorW.PrintLast Go.Proofs.YtchjgphnglklcaaGreatDoorW.PrintMore
def slices_Clone_u8.f (l0 : List Int) : Option (List Int) := if 1 ≤ l0.length ∧ l0.length ≤ 1000000 then some l0 else none
set_option maxHeartbeats 4000000 in
set_option maxRecDepth 100000 in
theorem slices_Clone_u8.calls (A0 : Option Addr) (c0 : Nat) (l0 : List Int) (r : List Int) (w : World) (hr0 : Kd.C (Kd.int .u8) w A0 l0.length l0) (hc0 : l0.length ≤ c0) (h : slices_Clone_u8.f l0 = some r) :
  Calls Tryz.prog 107 #[.slice A0 l0.length c0] w fun e w' => ∃ v0_ : Value, e = .returned (v0_) ∧ Kd.R (Kd.int .u8) 5 w' w.heap.size (fun _ => True) v0_ r ∧ Below w.heap.size w w' := by
 unfold slices_Clone_u8.f at h
 split at h
 case isFalse => cases h
 rename_i hn
 obtain rfl := Option.some.inj h;obtain ⟨b, off, rfl, hb, hcell⟩ := bytes_at hr0 hn.1
 have q37 : ∀ (w : World) (a : Option Addr) (n c n' c' : Nat), (binOp .eql 36 (.slice a n c) (.slice none n' c')).run Tryz.prog w = .ok (.bool a.isNone) w := fun w a n c n' c' => Lib.run_eql_slice_nil w _ _ a n c n' c' Tryz.underlying36
 obtain ⟨i0, hi, hz0, hz1, hz2⟩ := info_parts info5;have HC := Aside0.mk hcell;clear hcell hr0 hc0 h
 go_enter Tryz.func107, Tryz.ntmps107
 go_wp2_with (at_builtin; refine wpList_append_own _ rfl _ _ 36 rfl w.heap.size 5 i0 (.int .u8 0) 1 1 Tryz.underlying36 hi hz0 hz1 hz2 rfl (by decide) _ _ _ rfl (World.ownsRow_made w #[] 0 (Nat.le_refl _) (Nat.zero_le _) (by simp)) ⟨b, off, none⟩ l0.length c0 (l0.map (Value.int .u8)) rfl ?qc1 ?qc2 ?qc3 ?qc4 ?qc5 ?qc6 ?_)
 case qc1 => simp
 case qc2 =>
  intro j u hj
  rw [Addr.add_lit]
  have hjl : j < l0.length := by
   have := (List.getElem?_eq_some_iff.1 hj).1
   simpa using this
  have h2 := HC.out j hjl
  rw [List.getElem?_map, List.getElem?_eq_getElem hjl] at hj
  obtain rfl := Option.some.inj hj
  rw [List.getD_eq_getElem?_getD, List.getElem?_eq_getElem hjl] at h2
  exact Lib.cell?_alloc_some _ h2
 case qc3 =>
  intro u hu;obtain ⟨x, _, rfl⟩ := List.mem_map.1 hu
  rfl
 case qc4 => simp [maxLen]; omega
 case qc5 => omega
 case qc6 => simp
 intro v' w1 hown hgrow hnil
 go_wp2
 go_ret
 refine ⟨v', rfl, Kd.R_of_own (enc := Value.int .u8) (show w1.ownsRow w.heap.size 5 1 v' l0.length (l0.map (Value.int .u8)) by simpa using hown) (fun _ _ => trivial), ?_⟩
 exact ((Below.refl _ w).alloc (Nat.le_refl _) _).grown hgrow (by simp) (by intro k hk; simp [Value.ownBlock] at hk; omega)
end Go.Proofs.YtchjgphnglklcaaGreatDoor.Q
end
section
namespace Go.Proofs.YtchjgphnglklcaaGreatDoor.Q
open Go.RowKit Go.Proofs.YtchjgphnglklcaaGreatDoorW.PrintWords Go.Proofs.YtchjgphnglklcaaGreatDoorW.PrintLast Go.Proofs.YtchjgphnglklcaaGreatDoorW.PrintMore
attribute [local go_sem] max2_int min2_int max_two min_two max_three min_three max_four min_four
set_option linter.unusedVariables false
set_option linter.unusedSimpArgs false
def impl_tray_own.f (a0_0 : Int) (a0_1 : Int) (l0_2 : List Int) : Option (Int × Int × List Int) := (slices_Clone_u8.f l0_2).bind fun t103 => (some (a0_0, a0_1, t103))
def impl_tray_own.T1 : Bool × List (List Nat × List Nat) := (true, [([], []), ([0], [0]), ([], []), ([2], [2]), ([], []), ([4], [4]), ([5], [5]), ([1, 3, 6], [1, 3, 6]), ([7, 6, 0, 1, 2, 3, 4, 5, 6, 7], [7])])
def impl_tray_own.B1 : List Nat := [0, 1, 0, 4, 0, 16, 48, 127, 255]
theorem impl_tray_own.tab1 : rtab .any (opsOf Tryz.f91 1) = impl_tray_own.T1 := by kernel_rfl
theorem impl_tray_own.bits1 : waitsOk impl_tray_own.T1.2 impl_tray_own.B1 = true := by kernel_rfl
set_option maxHeartbeats 8000000 in
set_option maxRecDepth 100000 in
theorem impl_tray_own.calls (a0_0 : Int) (a0_1 : Int) (A0_2 : Option Addr) (c0_2 : Nat) (l0_2 : List Int) (r1 : Int) (r2 : Int) (r3 : List Int) (w : World) (hr0_2 : Kd.C (Kd.int .u8) w A0_2 l0_2.length l0_2) (hc0_2 : l0_2.length ≤ c0_2) (h : impl_tray_own.f a0_0 a0_1 l0_2 = some (r1, r2, r3)) :
  Calls Tryz.prog 91 #[.agg #[.int .i64 a0_0, .int .i64 a0_1, .slice A0_2 l0_2.length c0_2]] w fun e w' => ∃ v2_ : Value, e = .returned (.agg #[.int .i64 r1, .int .i64 r2, v2_]) ∧ Kd.R (Kd.int .u8) 5 w' w.heap.size (fun _ => True) v2_ r3 ∧ Below w.heap.size w w' := by
 have hu64 := Tryz.underlying64;have HR0_2 := Aside0.mk hr0_2;have HC0_2 := Aside0.mk hc0_2;clear hr0_2 hc0_2;have HB := Aside0.mk (Below.refl w.heap.size w);have H : ((slices_Clone_u8.f l0_2).bind fun t103 => (some (a0_0, a0_1, t103))) = some (r1, r2, r3) := h;clear h;replace H := Option.bind_eq_some_iff.mp H;obtain ⟨t103, A20, H⟩ := H;replace H : (some (a0_0, a0_1, t103)) = some (r1, r2, r3) := H;have A2 := Aside0.mk A20;clear A20
 simp only [Option.some.injEq, Prod.mk.injEq] at H
 obtain ⟨rfl, rfl, rfl⟩ := H
 go_enter Tryz.func91, Tryz.ntmps91
 try go_wp2_with (first | ((with_reducible refine gate_dst (N := 1) rfl ?_); refine boxE (N := 1) (cs := #[.int .i64 a0_0, .int .i64 a0_1, .slice A0_2 l0_2.length c0_2]) (t := 64) ?_; intro gb101 hg w3 hbox hb; have n0_ := Aside0.mk (below_step (bel HB) hb); have n1_ := Aside0.mk (hbox); have n2_ := Aside0.mk (gsz hg (bel HB)); have n3_ := Aside0.mk (gsz hg (bel HB)); clear HB; have HB := n0_; have BK101 := n1_; have GW101 := n2_; have GE101 := n3_; clear n0_ n1_ n2_ n3_; clear hb hbox hg) | ((with_reducible refine gate_dst (N := 2) rfl ?_); refine boxE (N := 2) (cs := #[.int .i64 0, .int .i64 0, .slice none 0 0]) (t := 64) ?_; intro gb102 hg w4 hbox hb; have n0_ := Aside0.mk (blk_below (g := gb101) (o := .cells #[.int .i64 a0_0, .int .i64 a0_1, .slice A0_2 l0_2.length c0_2] 64 (0, 0)) blc hb); have n1_ := Aside0.mk (below_step (bel HB) hb); have n2_ := Aside0.mk (hbox); have n3_ := Aside0.mk (gsz hg (bel HB)); have n4_ := Aside0.mk (gsz hg (bel HB)); have n5_ := Aside0.mk ((by rw [hg]; exact Nat.ne_of_lt (blk_lt (g := gb101) (o := .cells #[.int .i64 a0_0, .int .i64 a0_1, .slice A0_2 l0_2.length c0_2] 64 (0, 0)) blc) : gb101 ≠ gb102)); have n6_ := Aside0.mk ((by rw [hg]; exact Nat.ne_of_gt (blk_lt (g := gb101) (o := .cells #[.int .i64 a0_0, .int .i64 a0_1, .slice A0_2 l0_2.length c0_2] 64 (0, 0)) blc) : gb102 ≠ gb101)); clear BK101; clear HB; have BK101 := n0_; have HB := n1_; have BK102 := n2_; have GW102 := n3_; have GE102 := n4_; have NB101_102 := n5_; have NB102_101 := n6_; clear n0_ n1_ n2_ n3_ n4_ n5_ n6_; clear hb hbox hg))
 have n0_ := Aside0.mk (blk_drew BK101.out);have n1_ := Aside0.mk (blk_drew BK102.out);have n2_ := Aside0.mk (below_drew1 HB.out);clear BK101;clear BK102;clear HB;have BK101 := n0_;have BK102 := n1_;have HB := n2_;clear n0_ n1_ n2_
 refine start_ (n := 9) (S := fun w' => w'.cell? ⟨gb101, 0, none⟩ = some (.int .i64 a0_0) ∧ w'.cell? ⟨gb101, 1, none⟩ = some (.int .i64 a0_1) ∧ w'.cell? ⟨gb101, 2, none⟩ = some (.slice A0_2 l0_2.length c0_2)) (ds := []) #[false, false, false, false, false, false, false, false, false] (by kernel_rfl) rfl rfl ⟨(blk_cell BK101.out 0).trans rfl, (blk_cell BK101.out 1).trans rfl, (blk_cell BK101.out 2).trans rfl⟩ (fun hHeld => ?_); refine with_tabW impl_tray_own.tab1 impl_tray_own.bits1 (fun HT_ HW_ => ?_)
 generalize w4.drew = w5 at BK101 BK102 HB hHeld ⊢
 refine pure_ (i := 0) (N := some 3) (v := ?_) (a' := ?_) #[true, false, false, false, false, false, false, false, false] rfl rfl (any_of HT_.out (by kernel_rfl)) (fun _ _ _ h => h) (Or.inl ⟨by rfl, ?_⟩) ?_ ?_
 rotate_left
 ·intro w'
  go_simp
  with_reducible rfl
 rotate_left
 ·simp only [Act.put, List.setIfInBounds_toArray, List.set_cons_zero, List.set_cons_succ, i64_w, i32_w]
  rfl
 refine pure_ (i := 2) (N := some 5) (v := ?_) (a' := ?_) #[true, false, true, false, false, false, false, false, false] rfl rfl (any_of HT_.out (by kernel_rfl)) (fun _ _ _ h => h) (Or.inl ⟨by rfl, ?_⟩) ?_ ?_
 rotate_left
 ·intro w'
  go_simp
  with_reducible rfl
 rotate_left
 ·simp only [Act.put, List.setIfInBounds_toArray, List.set_cons_zero, List.set_cons_succ, i64_w, i32_w]
  rfl
 refine pure_ (i := 4) (N := some 7) (v := ?_) (a' := ?_) #[true, false, true, false, true, false, false, false, false] rfl rfl (any_of HT_.out (by kernel_rfl)) (fun _ _ _ h => h) (Or.inl ⟨by rfl, ?_⟩) ?_ ?_
 rotate_left
 ·intro w'
  go_simp
  with_reducible rfl
 rotate_left
 ·simp only [Act.put, List.setIfInBounds_toArray, List.set_cons_zero, List.set_cons_succ, i64_w, i32_w]
  rfl
 refine take_ (i := 1) (N := some 4) (v := ?_) (a' := ?_) #[true, true, true, false, true, false, false, false, false] rfl rfl (take_ofW HT_.out HW_.out (by kernel_rfl)) (fun _ _ _ h => h) (Or.inl ⟨by rfl, ?_⟩) hHeld ?_ ?_
 rotate_left
 ·rintro w' ⟨s0, s1, s2⟩
  go_simp
  with_reducible rfl
 rotate_left
 ·simp only [Act.put, List.setIfInBounds_toArray, List.set_cons_zero, List.set_cons_succ, i64_w, i32_w]
  rfl
 refine take_ (i := 3) (N := some 6) (v := ?_) (a' := ?_) #[true, true, true, true, true, false, false, false, false] rfl rfl (take_ofW HT_.out HW_.out (by kernel_rfl)) (fun _ _ _ h => h) (Or.inl ⟨by rfl, ?_⟩) hHeld ?_ ?_
 rotate_left
 ·rintro w' ⟨s0, s1, s2⟩
  go_simp
  with_reducible rfl
 rotate_left
 ·simp only [Act.put, List.setIfInBounds_toArray, List.set_cons_zero, List.set_cons_succ, i64_w, i32_w]
  rfl
 refine take_ (i := 5) (N := some 8) (v := ?_) (a' := ?_) #[true, true, true, true, true, true, false, false, false] rfl rfl (take_ofW HT_.out HW_.out (by kernel_rfl)) (fun _ _ _ h => h) (Or.inl ⟨by rfl, ?_⟩) hHeld ?_ ?_
 rotate_left
 ·rintro w' ⟨s0, s1, s2⟩
  go_simp
  with_reducible rfl
 rotate_left
 ·simp only [Act.put, List.setIfInBounds_toArray, List.set_cons_zero, List.set_cons_succ, i64_w, i32_w]
  rfl
 refine one_ (i := 6) (N := some 9) #[true, true, true, true, true, true, true, false, false] rfl rfl (one_of HT_.out (by kernel_rfl)) (by decide) (fun K hK => ?_)
 refine goes_ Tryz.func107 (by kernel_rfl) rfl #[.slice A0_2 l0_2.length c0_2] (by rfl) rfl rfl (by (try simp only [List.map_toArray, List.map_cons, List.map_nil]); first | done | rfl | (simp only [List.length_drop, List.length_take]; rfl)) ?_
 with_reducible refine (slices_Clone_u8.calls _ _ l0_2 t103 _ ?side1 ?side2 A2.out).mono ?_
 (case side1 => repeat (first | exact (Kd.C_below HR0_2.out HB.out) | (with_reducible refine Kd.C_alloc ?_ _) | (with_reducible refine Kd.C_drewN ?_ _) | (with_reducible refine Kd.C_drew ?_)))
 (case side2 => exact HC0_2.out)
 rintro e w6 ⟨v104, rfl, ho0, hb⟩
 refine ⟨_, rfl, ?_⟩
 have n0_ := Aside0.mk (Kd.R_lower ho0 (below_size (bel HB)));have n1_ := Aside0.mk (blk_below (g := gb101) (o := .cells #[.int .i64 a0_0, .int .i64 a0_1, .slice A0_2 l0_2.length c0_2] 64 (0, 0)) blc hb);have n2_ := Aside0.mk (blk_below (g := gb102) (o := .cells #[.int .i64 0, .int .i64 0, .slice none 0 0] 64 (0, 0)) blc hb);have n3_ := Aside0.mk (below_step (bel HB) hb);clear BK101;clear BK102;clear HB;have HO105 := n0_;have BK101 := n1_;have BK102 := n2_;have HB := n3_;clear n0_ n1_ n2_ n3_
 (try clear hb)
 (try clear hb2)
 (try clear hk)
 (try clear hi)
 (try clear ho0)
 obtain ⟨Ao7, co7, eo7⟩ := Kd.R_slice HO105.out
 (first | subst eo7 | (injection eo7 with f1_ f2_ f3_; have f4_ := f1_.symm; have f5_ := f3_.symm; clear f1_ f2_ f3_; subst f4_; subst f5_))
 refine hK.out _ _ ⟨(blk_cell BK101.out 0).trans rfl, (blk_cell BK101.out 1).trans rfl, (blk_cell BK101.out 2).trans rfl⟩ (fun hHeld => ?_)
 clear hK K
 refine norm_ (a' := ?_) ?_ ?_
 rotate_left
 ·show Act.put _ (some 9) _ = _
  simp only [Act.put, List.setIfInBounds_toArray, List.set_cons_zero, List.set_cons_succ, i64_w, i32_w]
  rfl
 refine pure_ (i := 7) (N := some 10) (v := ?_) (a' := ?_) #[true, true, true, true, true, true, true, true, false] rfl rfl (any_of HT_.out (by kernel_rfl)) (fun _ _ _ h => h) (Or.inl ⟨by rfl, ?_⟩) ?_ ?_
 rotate_left
 ·intro w'
  go_simp
  with_reducible rfl
 rotate_left
 ·simp only [Act.put, List.setIfInBounds_toArray, List.set_cons_zero, List.set_cons_succ, i64_w, i32_w]
  rfl
 refine one_ (i := 8) (N := none) #[true, true, true, true, true, true, true, true, true] rfl rfl (one_of HT_.out (by kernel_rfl)) (by decide) (fun K hK => ?_)
 have hs8 : w6.cell? ⟨gb102, 0, none⟩ = some (.int .i64 0) := (blk_cell BK102.out 0).trans rfl;have hfs8 := blk_frozen BK102.out 0;have hns8_0 := NB101_102.out;have hms8_0 := NB102_101.out;have hs9 : w6.cell? ⟨gb102, 1, none⟩ = some (.int .i64 0) := (blk_cell BK102.out 1).trans rfl;have hfs9 := blk_frozen BK102.out 1;have hns9_0 := NB101_102.out;have hms9_0 := NB102_101.out;have hs10 : w6.cell? ⟨gb102, 2, none⟩ = some (.slice none 0 0) := (blk_cell BK102.out 2).trans rfl;have hfs10 := blk_frozen BK102.out 2;have hns10_0 := NB101_102.out;have hms10_0 := NB102_101.out
 refine skip_ (w1 := ?_) (by rfl) rfl ?_ ?_
 rotate_left
 ·go_simp
  rfl
 refine hK.out _ _ ⟨((cell_far (p := ⟨gb102, _, none⟩) NB101_102.out _).trans (((cell_far (p := ⟨gb102, _, none⟩) NB101_102.out _).trans (((cell_far (p := ⟨gb102, _, none⟩) NB101_102.out _).trans (hHeld.1)))))), ((cell_far (p := ⟨gb102, _, none⟩) NB101_102.out _).trans (((cell_far (p := ⟨gb102, _, none⟩) NB101_102.out _).trans (((cell_far (p := ⟨gb102, _, none⟩) NB101_102.out _).trans (hHeld.2.1)))))), ((cell_far (p := ⟨gb102, _, none⟩) NB101_102.out _).trans (((cell_far (p := ⟨gb102, _, none⟩) NB101_102.out _).trans (((cell_far (p := ⟨gb102, _, none⟩) NB101_102.out _).trans (hHeld.2.2))))))⟩ (fun hHeld => ?_)
 clear hK K
 refine done_ (done_of HT_.out (by kernel_rfl)) ?_
 try go_wp2
 refine bodyPost_ret (results_cell_row rfl _ _ gb102 64 #[.int .i64 a0_0, .int .i64 a0_1, .slice Ao7 t103.length co7] (0, 0) _ rfl (by (with_reducible repeat (first | refine blk_drewN ?_ _ | refine blk_drew ?_ | refine blk_alloc ?_ _)); refine blk_put (cs := #[.int .i64 a0_0, .int .i64 a0_1, .slice none 0 0]) ?_ 2 _ rfl; (with_reducible repeat (first | refine blk_drewN ?_ _ | refine blk_drew ?_ | refine blk_alloc ?_ _)); refine blk_put (cs := #[.int .i64 a0_0, .int .i64 0, .slice none 0 0]) ?_ 1 _ rfl; (with_reducible repeat (first | refine blk_drewN ?_ _ | refine blk_drew ?_ | refine blk_alloc ?_ _)); refine blk_put (cs := #[.int .i64 0, .int .i64 0, .slice none 0 0]) ?_ 0 _ rfl; exact blc) Tryz.underlying64 rfl (by kernel_rfl)) rfl ?_
 exact ⟨_, by first | rfl | (simp [errW_none, errW_some] <;> rfl) | (simp [*, errW_none, errW_some] <;> rfl), by (with_reducible repeat (first | apply Kd.R_alloc | apply Kd.R_drewN | apply Kd.R_drew)); exact Kd.R_mono (Kd.R_far (p := ⟨gb102, 2, none⟩) (Kd.R_far (p := ⟨gb102, 1, none⟩) (Kd.R_far (p := ⟨gb102, 0, none⟩) (Kd.R_types HO105.out BK102.out (by decide)) (fun _ hk => hk.2) (.int .i64 a0_0)) (fun _ hk => hk.2) (.int .i64 a0_1)) (fun _ hk => hk.2) (.slice Ao7 t103.length co7)) (fun _ hk => trivial), bel HB⟩
end Go.Proofs.YtchjgphnglklcaaGreatDoor.Q
end
section
namespace Go.Proofs.YtchjgphnglklcaaGreatDoor.Q
open Go.RowKit Go.Proofs.YtchjgphnglklcaaGreatDoorW.PrintWords Go.Proofs.YtchjgphnglklcaaGreatDoorW.PrintLast Go.Proofs.YtchjgphnglklcaaGreatDoorW.PrintMore
def impl_tray_emptied.f (w h : Int) (cs : List Int) : Option (Int × Int × List Int) := if 0 < cs.length ∧ cs.length ≤ 1000 then some (w, h, emptyC cs) else none
def halfE (cs : List Int) (t : Nat) : List Int := emptyC (cs.take t) ++ cs.drop t
theorem own_val (w h : Int) (cs : List Int) (h0 : 0 < cs.length) (hl : cs.length ≤ 1000) : impl_tray_own.f w h cs = some (w, h, cs) := by
 unfold impl_tray_own.f slices_Clone_u8.f
 rw [if_pos ⟨h0, by omega⟩]
 rfl
theorem halfE_all (cs : List Int) : halfE cs cs.length = emptyC cs := by
 unfold halfE
 rw [List.take_length, List.drop_length, List.append_nil]
theorem halfE_at (cs : List Int) (t : Nat) (h : t < cs.length) : rdOf 0 (halfE cs t) (t : Int) = rd cs (t : Int) := by
 have hl : (emptyC (cs.take t)).length = t := by
  unfold emptyC
  simp
  omega
 unfold rdOf rd halfE
 rw [Int.toNat_natCast, List.getD_eq_getElem?_getD, List.getD_eq_getElem?_getD, List.getElem?_append_right (by omega), hl, Nat.sub_self, List.getElem?_drop, Nat.add_zero]
theorem halfE_succ (cs : List Int) (t : Nat) (h : t < cs.length) : halfE cs (t + 1) = if isB (rd cs (t : Int)) = true then (halfE cs t).set t 46 else halfE cs t := by
 have e1 : cs.take (t + 1) = cs.take t ++ [cs[t]] := List.take_succ_eq_append_getElem h;have e2 : cs.drop t = cs[t] :: cs.drop (t + 1) := List.drop_eq_getElem_cons h
 have hl : (emptyC (cs.take t)).length = t := by
  unfold emptyC
  simp
  omega
 rw [rd_nat cs t h]
 unfold halfE
 rw [e1, e2]
 have e3 : emptyC (cs.take t ++ [cs[t]]) = emptyC (cs.take t) ++ [if isB cs[t] = true then 46 else cs[t]] := by
  unfold emptyC
  rw [List.map_append]
  rfl
 rw [e3, List.append_assoc]
 by_cases hb : isB cs[t] = true
 ·rw [if_pos hb, if_pos hb, List.set_append_right _ _ (by omega), hl, Nat.sub_self]
  rfl
 ·rw [if_neg hb, if_neg hb]
  rfl
structure EM (w W : World) (gr go gb : Nat) (a b : Int) (n c : Nat) (xs : List Int) : Prop where
 below : Below w.heap.size w W
 res : W.heap[gr]? = some (.cells #[.int .i64 0, .int .i64 0, .slice none 0 0] 64 (0, 0))
 out : W.heap[go]? = some (.cells #[.int .i64 a, .int .i64 b, .slice (some ⟨gb, 0, none⟩) n c] 64 (0, 0))
 row : Kd.R (Kd.int .u8) 5 W w.heap.size (fun _ => True) (.slice (some ⟨gb, 0, none⟩) n c) xs
 gr0 : w.heap.size ≤ gr
 go0 : w.heap.size ≤ go
 gb0 : w.heap.size ≤ gb
 ne : gr ≠ go
 len : xs.length = n
section
variable {w W W1 : World} {gr go gb n c : Nat} {a b : Int} {xs : List Int}
theorem EM.step (h : EM w W gr go gb a b n c xs) (hb : Below W.heap.size W W1) : EM w W1 gr go gb a b n c xs :=
 ⟨below_then h.below h.below.size hb, (hb.block _ (blk_lt h.res)).trans h.res, (hb.block _ (blk_lt h.out)).trans h.out, Kd.R_below h.row hb, h.gr0, h.go0, h.gb0, h.ne, h.len⟩
theorem EM.neb (h : EM w W gr go gb a b n c xs) : gr ≠ gb ∧ go ≠ gb :=
 ⟨fun e => Kd.R_ne h.row h.res (by decide) (by rw [e]; rfl), fun e => Kd.R_ne h.row h.out (by decide) (by rw [e]; rfl)⟩
theorem EM.set (h : EM w W gr go gb a b n c xs) (i x : Int) : EM w (W.setCell ⟨gb, i.toNat, none⟩ (.int .u8 x)) gr go gb a b n c (xs.set i.toNat x) := by
 obtain ⟨n1, n2⟩ := h.neb
 exact ⟨below_set h.below h.gb0, blk_far h.res n1 _, blk_far h.out n2 _, (Kd.R_putg h.row i x).1, h.gr0, h.go0, h.gb0, h.ne, by rw [List.length_set]; exact h.len⟩
end
set_option maxHeartbeats 16000000 in
set_option maxRecDepth 100000 in
theorem impl_tray_emptied.calls (a0_0 a0_1 : Int) (A0_2 : Option Addr) (c0_2 : Nat) (l0_2 : List Int) (r1 r2 : Int) (r3 : List Int) (w : World) (hr0_2 : Kd.C (Kd.int .u8) w A0_2 l0_2.length l0_2) (hc0_2 : l0_2.length ≤ c0_2) (h : impl_tray_emptied.f a0_0 a0_1 l0_2 = some (r1, r2, r3)) :
  Calls Tryz.prog 76 #[.agg #[.int .i64 a0_0, .int .i64 a0_1, .slice A0_2 l0_2.length c0_2]] w fun e w' => ∃ v2_ : Value, e = .returned (.agg #[.int .i64 r1, .int .i64 r2, v2_]) ∧ Kd.R (Kd.int .u8) 5 w' w.heap.size (fun _ => True) v2_ r3 ∧ Below w.heap.size w w' := by
 unfold impl_tray_emptied.f at h
 split at h
 case isFalse => cases h
 rename_i hl
 simp only [Option.some.injEq, Prod.mk.injEq] at h
 obtain ⟨rfl, rfl, rfl⟩ := h;have hu := Tryz.underlying64;have HR := Aside0.mk hr0_2;have HC := Aside0.mk hc0_2;have HL := Aside0.mk hl;have HV := Aside0.mk (own_val a0_0 a0_1 l0_2 hl.1 hl.2);clear hr0_2 hc0_2 hl
 go_enter Tryz.func76, Tryz.ntmps76
 go_wp2_with (first
  | ((with_reducible refine gate_dst (N := 1) rfl ?_); refine box_event ?hg (N := 1) ?hd (cs := #[.int .i64 a0_0, .int .i64 a0_1, .slice A0_2 l0_2.length c0_2]) (t := 64) ?hr ?_; (case hd => rfl); (case hg => rfl); (case hr => first | (go_simp; done) | (go_simp; rfl)); intro gt hg w1 hbox hb; (have HB1 := Aside0.mk hb); (have HT := Aside0.mk hbox); clear hbox hb hg)
  | ((with_reducible refine gate_dst (N := 2) rfl ?_); refine box_event ?hg (N := 2) ?hd (cs := #[.int .i64 0, .int .i64 0, .slice none 0 0]) (t := 64) ?hr ?_; (case hd => rfl); (case hg => rfl); (case hr => first | (go_simp; done) | (go_simp; rfl)); intro gr hg w2 hbox hb; (have HG2 := Aside0.mk (show w.heap.size ≤ gr by rw [hg]; exact HB1.out.size)); (have HB2 := Aside0.mk (below_then HB1.out HB1.out.size hb)); (have HT2 := Aside0.mk ((hb.block gt (blk_lt HT.out)).trans HT.out)); (have HRS := Aside0.mk hbox); (have z0 := (blk_cell HT2.out 0).trans rfl); (have z1 := (blk_cell HT2.out 1).trans rfl); (have z2 := (blk_cell HT2.out 2).trans rfl); clear hbox hb hg HT HB1))
 refine (impl_tray_own.calls a0_0 a0_1 _ c0_2 l0_2 a0_0 a0_1 l0_2 _ (Kd.C_below HR.out HB2.out) HC.out HV.out).mono ?_
 rintro e w3 ⟨v2, rfl, ho, hb3⟩
 obtain ⟨gb, c, rfl, hgb, hlb, cl, hcl⟩ := Kd.R_form ho HL.out.1;have HB3 := Aside0.mk (below_then HB2.out HB2.out.size hb3);have HRS3 := Aside0.mk ((hb3.block gr (blk_lt HRS.out)).trans HRS.out);have HO3 := Aside0.mk (Kd.R_lower ho HB2.out.size);have HGB := Aside0.mk (Nat.le_trans HB2.out.size hgb);clear z0 z1 z2 HT2 HRS HB2 ho hb3 hgb hlb hcl
 go_wp2_with (first
  | ((with_reducible refine gate_dst (N := 3) rfl ?_); refine box_event ?hg (N := 3) ?hd (cs := #[.int .i64 0, .int .i64 0, .slice none 0 0]) (t := 64) ?hr ?_; (case hd => rfl); (case hg => rfl); (case hr => first | (go_simp; done) | (go_simp; rfl)); intro go hg w4 hbox hb; (have HGO := Aside0.mk (show w.heap.size ≤ go by rw [hg]; exact HB3.out.size)); (have HNE := Aside0.mk (show gr ≠ go by rw [hg]; exact Nat.ne_of_lt (blk_lt HRS3.out))); (have HB4 := Aside0.mk (below_then HB3.out HB3.out.size hb)); (have HRS4 := Aside0.mk ((hb.block gr (blk_lt HRS3.out)).trans HRS3.out)); (have HO4 := Aside0.mk (Kd.R_below HO3.out hb)); (have HU := Aside0.mk hbox); (have y0 := (blk_cell HU.out 0).trans rfl); (have y1 := (blk_cell HU.out 1).trans rfl); (have y2 := (blk_cell HU.out 2).trans rfl); (have f0 := blk_frozen HU.out 0); (have f1 := blk_frozen HU.out 1); (have f2 := blk_frozen HU.out 2); clear hbox hb hg HB3 HRS3 HO3)
  | ((with_reducible refine gate_store (t := 64) (p := 3) rfl ?_); refine store_event (t := 64) (p := 3) (v := ?vo) (w1 := (((w4.setCell ⟨go, 0, none⟩ (.int .i64 a0_0)).setCell ⟨go, 1, none⟩ (.int .i64 a0_1)).setCell ⟨go, 2, none⟩ (.slice (some ⟨gb, 0, none⟩) l0_2.length c))) ?hg ?ho ?hn ?hr ?_; (case ho => rfl); (case hg => rfl); (case hn => rfl); (case hr => first | (go_simp; done) | (go_simp; rfl)); intro w5 hw; (have HE := Aside0.mk (show EM w w5 gr go gb a0_0 a0_1 l0_2.length c l0_2 from by rw [hw]; exact ⟨below_set (below_set (below_set HB4.out HGO.out) HGO.out) HGO.out, blk_far (blk_far (blk_far HRS4.out HNE.out _) HNE.out _) HNE.out _, (by refine blk_put (cs := #[.int .i64 a0_0, .int .i64 a0_1, .slice none 0 0]) ?_ 2 _ rfl; refine blk_put (cs := #[.int .i64 a0_0, .int .i64 0, .slice none 0 0]) ?_ 1 _ rfl; refine blk_put (cs := #[.int .i64 0, .int .i64 0, .slice none 0 0]) ?_ 0 _ rfl; exact HU.out), Kd.R_mono (Kd.R_far (p := ⟨go, 2, none⟩) (Kd.R_far (p := ⟨go, 1, none⟩) (Kd.R_far (p := ⟨go, 0, none⟩) (Kd.R_types HO4.out HU.out (by decide)) (fun _ hk => hk.2) (.int .i64 a0_0)) (fun _ hk => hk.2) (.int .i64 a0_1)) (fun _ hk => hk.2) (.slice (some ⟨gb, 0, none⟩) l0_2.length c)) (fun _ _ => trivial), HG2.out, HGO.out, HGB.out, HNE.out, rfl⟩)); clear hw HU HO4 HRS4 HB4 y0 y1 y2 f0 f1 f2; (have y0 := (blk_cell HE.out.out 0).trans rfl); (have y1 := (blk_cell HE.out.out 1).trans rfl); (have y2 := (blk_cell HE.out.out 2).trans rfl)))
 have HE0 := Aside0.mk (show EM w w5 gr go gb a0_0 a0_1 l0_2.length c (halfE l0_2 0) from HE.out);have HL2 := Aside0.mk HL.out.2;clear HE y0 y1 y2
 go_loopg [11] l0_2.length (fun gg v11 wr => ∃ t : Nat, v11 = .int .i64 t ∧ Aside0 (t ≤ l0_2.length ∧ l0_2.length - t ≤ gg) ∧ Aside0 (EM w wr gr go gb a0_0 a0_1 l0_2.length c (halfE l0_2 t)))
 case atStart => exact ⟨0, rfl, ⟨Nat.zero_le _, by omega⟩, HE0⟩
 case round =>
  clear HE0;obtain ⟨t, rfl, HA, HE⟩ := hrel;have y0 := (blk_cell HE.out.out 0).trans rfl;have y1 := (blk_cell HE.out.out 1).trans rfl;have y2 := (blk_cell HE.out.out 2).trans rfl
  have hwt : wrap64 ((t : Int) + 1) = ((t + 1 : Nat) : Int) := by
   have := HA.out;have := HL2.out;unfold wrap64
   omega
  by_cases hlt : t < l0_2.length
  ·have c1 : decide ((t : Int) < (l0_2.length : Int)) = true := decide_eq_true (by omega)
   have p1 : (0 ≤ (t : Int)) = True := eq_true (by omega);have p2 : ((t : Int) < (l0_2.length : Int)) = True := eq_true (by omega);obtain ⟨x0, x1⟩ := Kd.R_celln 0 HE.out.row (t : Int) (by omega) (by omega)
   rw [halfE_at l0_2 t hlt] at x0
   rw [Int.toNat_natCast] at x0 x1
   have hsucc := halfE_succ l0_2 t hlt;generalize rd l0_2 (t : Int) = v at x0 hsucc;have HS := Aside0.mk hsucc;clear hsucc
   cases hb : isB v with
   | true =>
    have hv := isBall_eq v
    rw [hb] at hv
    have HV2 := Aside0.mk hv;clear hv
    go_wp2_with (go_at_call 78; refine (impl_isBall.calls v true _ HV2.out).mono ?_; rintro e w6 ⟨rfl, ⟨nd, rfl⟩⟩; (have HE6 := Aside0.mk (HE.out.step (pw_below_drewN (Below.refl _ _) nd))); clear y0 y1 y2 x0 x1; (have y0 := (blk_cell HE6.out.out 0).trans rfl); (have y1 := (blk_cell HE6.out.out 1).trans rfl); (have y2 := (blk_cell HE6.out.out 2).trans rfl); (obtain ⟨x0, x1⟩ := Kd.R_celln 0 HE6.out.row (t : Int) (by omega) (by omega)); rw [Int.toNat_natCast] at x0 x1)
    go_roundg (l0_2.length - (t + 1))
    case measure => have := HA.out; omega
    case rel =>
     refine ⟨t + 1, by first | rfl | rw [hwt], ⟨by have := HA.out; omega, Nat.le_refl _⟩, ?_⟩
     have h8 := HE6.out.set (t : Int) 46
     rw [Int.toNat_natCast] at h8
     rw [HS.out, if_pos hb]
     exact ⟨h8⟩
   | false =>
    have hv := isBall_eq v
    rw [hb] at hv
    have HV2 := Aside0.mk hv;clear hv
    go_wp2_with (go_at_call 78; refine (impl_isBall.calls v false _ HV2.out).mono ?_; rintro e w6 ⟨rfl, ⟨nd, rfl⟩⟩; (have HE6 := Aside0.mk (HE.out.step (pw_below_drewN (Below.refl _ _) nd))); clear y0 y1 y2 x0 x1; (have y0 := (blk_cell HE6.out.out 0).trans rfl); (have y1 := (blk_cell HE6.out.out 1).trans rfl); (have y2 := (blk_cell HE6.out.out 2).trans rfl); (obtain ⟨x0, x1⟩ := Kd.R_celln 0 HE6.out.row (t : Int) (by omega) (by omega)); rw [Int.toNat_natCast] at x0 x1)
    go_roundg (l0_2.length - (t + 1))
    case measure => have := HA.out; omega
    case rel =>
     refine ⟨t + 1, by first | rfl | rw [hwt], ⟨by have := HA.out; omega, Nat.le_refl _⟩, ?_⟩
     rw [HS.out, if_neg (by rw [hb]; decide)]
     exact HE6
  ·have hAt := HA.out.1
   obtain rfl : t = l0_2.length := by omega
   have c1 : decide ((l0_2.length : Int) < (l0_2.length : Int)) = false := decide_eq_false (by omega);clear hAt HA hlt hwt
   rw [halfE_all] at HE
   have r0 := (blk_cell HE.out.res 0).trans rfl;have r1 := (blk_cell HE.out.res 1).trans rfl;have r2 := (blk_cell HE.out.res 2).trans rfl;have g0 := blk_frozen HE.out.res 0;have g1 := blk_frozen HE.out.res 1;have g2 := blk_frozen HE.out.res 2
   go_wp2_with fail
   refine bodyPost_ret (results_cell_row rfl _ _ gr 64 #[.int .i64 a0_0, .int .i64 a0_1, .slice (some ⟨gb, 0, none⟩) l0_2.length c] (0, 0) _ rfl (by refine blk_put (cs := #[.int .i64 a0_0, .int .i64 a0_1, .slice none 0 0]) ?_ 2 _ rfl; refine blk_put (cs := #[.int .i64 a0_0, .int .i64 0, .slice none 0 0]) ?_ 1 _ rfl; refine blk_put (cs := #[.int .i64 0, .int .i64 0, .slice none 0 0]) ?_ 0 _ rfl; exact HE.out.res) Tryz.underlying64 rfl (by kernel_rfl)) rfl ?_
   exact ⟨_, rfl, Kd.R_mono (Kd.R_far (p := ⟨gr, 2, none⟩) (Kd.R_far (p := ⟨gr, 1, none⟩) (Kd.R_far (p := ⟨gr, 0, none⟩) (Kd.R_types HE.out.row HE.out.res (by decide)) (fun _ hk => hk.2) (.int .i64 a0_0)) (fun _ hk => hk.2) (.int .i64 a0_1)) (fun _ hk => hk.2) (.slice (some ⟨gb, 0, none⟩) l0_2.length c)) (fun _ _ => trivial), below_set (below_set (below_set HE.out.below HE.out.gr0) HE.out.gr0) HE.out.gr0⟩
end Go.Proofs.YtchjgphnglklcaaGreatDoor.Q
end
section
namespace Go.Proofs.YtchjgphnglklcaaGreatDoor.Q
set_option linter.unusedSectionVars false
open Go.RowKit Go.Proofs.YtchjgphnglklcaaGreatDoorW.PrintWords Go.Proofs.YtchjgphnglklcaaGreatDoorW.PrintLast Go.Proofs.YtchjgphnglklcaaGreatDoorW.PrintMore
noncomputable def PE : Value → Option (DataW Unit × List MemPlace) := plainElem Tryz.prog 3
theorem keyI : Maps.Keyed Tryz.prog 3 := Maps.int_keyed Tryz.underlying3
def lk (x : Int) : Lit := .int .i64 x
theorem lk_wf {x : Int} (h0 : 0 ≤ x) (h1 : x ≤ 1000000) : (Lit.int .i64 x).wf = true := by
 unfold Lit.wf
 rw [Bool.and_eq_true]
 exact ⟨decide_eq_true (Int.le_trans (by decide) h0), decide_eq_true (Int.le_trans h1 (by decide))⟩
theorem lk_key (x : Int) : WideAt.IsKeyLit (lk x) := by simp [WideAt.IsKeyLit, lk]
theorem lk_ne {x y : Int} (h : x ≠ y) : lk x ≠ lk y := fun e => h (by injection e)
structure Holds (D : DataW Unit) (f : Int → Option Int) : Prop where
 map : Maps.IsMap D
 at' : ∀ (x : Int) (z : DataW Unit), D.atKey (lk x) z = match f x with | some c => .lit (lk c) | none => z
 has' : ∀ x : Int, Maps.has D (lk x) = (f x).isSome
theorem Holds.made : Holds (.map []) fun _ => none := ⟨Maps.isMap_empty, fun _ _ => rfl, fun _ => rfl⟩
def upd (f : Int → Option Int) (k v : Int) : Int → Option Int := fun x => if x = k then some v else f x
theorem Holds.put {D : DataW Unit} {f : Int → Option Int} (h : Holds D f) (k v : Int) : Holds (D.put (lk k) (.lit (lk v))) (upd f k v) := by
 refine ⟨h.map.put _ _, fun x z => ?_, fun x => ?_⟩
 ·unfold upd
  by_cases e : x = k
  ·rw [if_pos e, e, Maps.atKey_put_same h.map (lk_key k)]
  ·rw [if_neg e, Maps.atKey_put_other (lk_ne e), h.at']
 ·unfold upd
  by_cases e : x = k
  ·rw [if_pos e, e, Maps.has_put_same h.map (lk_key k)]
   rfl
  ·rw [if_neg e, Maps.has_put_other (lk_ne e), h.has']
def MP (w : World) (b n : Nat) (f : Int → Option Int) : Prop := ∃ D : DataW Unit, w.ownsMap Tryz.prog 3 PE b n D ∧ Holds D f
theorem MP.made (w : World) : MP (w.alloc (.map #[] 0)) w.heap.size 0 fun _ => none := ⟨_, World.ownsMap_made w _ _ _, Holds.made⟩
theorem MP.kept {w w' : World} {b n : Nat} {f : Int → Option Int} {row : Option Nat} (h : MP w b n f) (hg : w.grownBy w' row) (hne : some b ≠ row) : MP w' b n f := by
 obtain ⟨D, h1, h2⟩ := h
 exact ⟨D, h1.kept hg hne, h2⟩
theorem MP.below {w w' : World} {b n : Nat} {f : Int → Option Int} (h : MP w b n f) (hb : Below w.heap.size w w') : MP w' b n f := h.kept (grown_of_below hb none) (by simp)
def NC (w : World) (r : Nat) : Prop := ∀ (c : Array Value) (q : Nat) (z : Nat × Nat), w.heap[r]? ≠ some (.cells c q z)
theorem R_turn {α : Type} {d : Kd α} {e base : Nat} {ok : Nat → Prop} {w w1 : World} {v : Value} {xs : List α} (h : Kd.R d e w base ok v xs) {r : Nat} (hg : w.grownBy w1 (some r)) (hn : NC w r) : Kd.R d e w1 base ok v xs :=
 Kd.R_mono (Kd.R_move (Kd.R_bound h) (fun k hk => hg.block k hk.2.2.1 (by
  rintro e
  cases e
  obtain ⟨_, _, _, q, _, cells, hc⟩ := hk
  exact hn _ _ _ hc))) (fun _ hk => hk.1)
theorem blk_turn {w w1 : World} {g r q : Nat} {c : Array Value} {z : Nat × Nat} (h : w.heap[g]? = some (.cells c q z)) (hg : w.grownBy w1 (some r)) (hn : NC w r) : w1.heap[g]? = some (.cells c q z) := by
 refine blk_grown h hg ?_
 rintro e
 cases e
 exact hn _ _ _ h
theorem MP.nc {w : World} {b n : Nat} {f : Int → Option Int} (h : MP w b n f) : NC w b := by
 obtain ⟨D, ⟨es, clock, hb, _⟩, _⟩ := h;intro c q z e
 rw [hb] at e
 cases e
theorem ranges_nc {w : World} {b r n cnt : Nat} {D : DataW Unit} {left : Lit → Bool} (h : w.ranges Tryz.prog 3 PE b r n D left cnt) : NC w r := by
 obtain ⟨es, clock, since, seen, c0, hb, _, _, _, hr, _⟩ := h;intro c q z e
 rw [hr] at e
 cases e
theorem ranges_set {w : World} {b r n cnt : Nat} {D : DataW Unit} {left : Lit → Bool} (h : w.ranges Tryz.prog 3 PE b r n D left cnt) {g : Nat} (h1 : b ≠ g) (h2 : r ≠ g) (i : Nat) (v : Value) : (w.setCell ⟨g, i, none⟩ v).ranges Tryz.prog 3 PE b r n D left cnt := by
 obtain ⟨es, clock, since, seen, c0, hb, F, hs, hD, hr, rest⟩ := h
 exact ⟨es, clock, since, seen, c0, (Below.heap_setCell w ⟨g, i, none⟩ v b h1).trans hb, F, hs, hD, (Below.heap_setCell w ⟨g, i, none⟩ v r h2).trans hr, rest⟩
theorem ranges_drew {w : World} {b r n cnt : Nat} {D : DataW Unit} {left : Lit → Bool} (h : w.ranges Tryz.prog 3 PE b r n D left cnt) : w.drew.ranges Tryz.prog 3 PE b r n D left cnt := h
theorem ranges_mnc {w : World} {b r n cnt : Nat} {D : DataW Unit} {left : Lit → Bool} (h : w.ranges Tryz.prog 3 PE b r n D left cnt) : NC w b := by
 obtain ⟨es, clock, since, seen, c0, hb, _⟩ := h;intro c q z e
 rw [hb] at e
 cases e
theorem R_nc {α : Type} {d : Kd α} {e base n c : Nat} {ok : Nat → Prop} {w : World} {g : Nat} {xs : List α} (h : Kd.R d e w base ok (.slice (some ⟨g, 0, none⟩) n c) xs) {r : Nat} (hn : NC w r) : r ≠ g := by
 rintro rfl
 obtain ⟨_, _, _, q, _, cells, hc⟩ := (Kd.R_bound h).1 _ rfl
 exact hn _ _ _ hc
theorem blk_nc {w : World} {g r q : Nat} {c : Array Value} {z : Nat × Nat} (h : w.heap[g]? = some (.cells c q z)) (hn : NC w r) : r ≠ g := by
 rintro rfl
 exact hn _ _ _ h
theorem below_none {W W1 : World} (hg : W.grownBy W1 none) : Below W.heap.size W W1 := (Below.refl _ W).grown hg (Nat.le_refl _) (fun _ h => by cases h)
theorem pe_int {c : Int} (hw : (Lit.int .i64 c).wf = true) : PE (.int .i64 c) = some (.lit (lk c), []) := plainElem_int Tryz.underlying3 hw
end Go.Proofs.YtchjgphnglklcaaGreatDoor.Q
end
section
namespace Go.Proofs.YtchjgphnglklcaaGreatDoor.Q
set_option linter.unusedSectionVars false
open Go.RowKit Go.Proofs.YtchjgphnglklcaaGreatDoorW.PrintWords Go.Proofs.YtchjgphnglklcaaGreatDoorW.PrintLast Go.Proofs.YtchjgphnglklcaaGreatDoorW.PrintMore
def comes (f : Int → Option Int) (came : Int → Bool) (n : Nat) (j : Nat) : Option Nat := (List.range n).find? fun x : Nat => decide (f (x : Int) = some (j : Int)) && came (x : Int)
def laidCells (cs em : List Int) (f : Int → Option Int) (came : Int → Bool) : List Int := (List.range cs.length).map fun j : Nat => match comes f came cs.length j with | some x => rd cs (x : Int) | none => rd em (j : Int)
structure Fits (f : Int → Option Int) (n : Nat) : Prop where
 dom : ∀ x c, f x = some c → 0 ≤ x ∧ x < (n : Int) ∧ 0 ≤ c ∧ c < (n : Int)
 inj : ∀ x y c, f x = some c → f y = some c → x = y
theorem laid_none (cs em : List Int) (f : Int → Option Int) (hl : em.length = cs.length) : laidCells cs em f (fun _ => false) = em := by
 unfold laidCells comes
 refine List.ext_getElem (by simpa using hl.symm) fun j h1 h2 => ?_
 rw [List.getElem_map, List.getElem_range]
 rw [List.find?_eq_none.2 (fun x _ => by simp)]
 show rd em (j : Int) = _
 unfold rd
 rw [Int.toNat_natCast, List.getD_eq_getElem?_getD, List.getElem?_eq_getElem h2]
 rfl
theorem laid_len (cs em : List Int) (f : Int → Option Int) (came : Int → Bool) : (laidCells cs em f came).length = cs.length := by
 unfold laidCells
 rw [List.length_map, List.length_range]
theorem laid_step (cs em : List Int) (f : Int → Option Int) (came : Int → Bool) (hf : Fits f cs.length) (x c : Int) (hx : f x = some c) : laidCells cs em f (fun y => came y || decide (y = x)) = (laidCells cs em f came).set c.toNat (rd cs x) := by
 obtain ⟨h0, h1, h2, h3⟩ := hf.dom x c hx;unfold laidCells
 refine List.ext_getElem (by simp) fun j h4 h5 => ?_
 rw [List.getElem_set, List.getElem_map, List.getElem_range]
 have hj : j < cs.length := by simpa using h4
 by_cases hc : c.toNat = j
 ·rw [if_pos hc]
  have hfd : comes f (fun y => came y || decide (y = x)) cs.length j = some x.toNat := by
   unfold comes
   have hsome : ∃ y, ((List.range cs.length).find? fun y : Nat => decide (f (y : Int) = some (j : Int)) && (came (y : Int) || decide ((y : Int) = x))) = some y := by
    rw [← Option.isSome_iff_exists, List.find?_isSome]
    refine ⟨x.toNat, List.mem_range.2 (by omega), ?_⟩
    rw [Int.toNat_of_nonneg h0, hx]
    have : c = (j : Int) := by omega
    simp [this]
   obtain ⟨y, hy⟩ := hsome;have hp := List.find?_some hy
   simp only [Bool.and_eq_true, decide_eq_true_eq] at hp
   have hyx := hf.inj (y : Int) x c (by rw [hp.1]; congr 1; omega) hx
   rw [hy]
   congr 1
   omega
  rw [hfd]
  show rd cs (x.toNat : Int) = rd cs x
  rw [Int.toNat_of_nonneg h0]
 ·rw [if_neg hc, List.getElem_map, List.getElem_range]
  have he : comes f (fun y => came y || decide (y = x)) cs.length j = comes f came cs.length j := by
   unfold comes
   congr 1
   funext y
   by_cases hyx : (y : Int) = x
   ·have : ¬ f (y : Int) = some (j : Int) := by
     rw [hyx, hx]
     intro e;have := Option.some.inj e
     omega
    rw [decide_eq_false this]
    rfl
   ·show (decide (f (y : Int) = some (j : Int)) && (came (y : Int) || decide ((y : Int) = x))) = _
    rw [decide_eq_false hyx, Bool.or_false]
  rw [he]
theorem find_congr {α : Type} {p q : α → Bool} : ∀ (l : List α), (∀ x ∈ l, p x = q x) → l.find? p = l.find? q
 | [], _ => rfl
 | a :: l, h => by
  rw [List.find?_cons, List.find?_cons, h a List.mem_cons_self, find_congr l fun x hx => h x (List.mem_cons_of_mem _ hx)]
theorem laid_congr (cs em : List Int) (f g : Int → Option Int) (ca cb : Int → Bool) (h : ∀ x : Nat, x < cs.length → f (x : Int) = g (x : Int) ∧ (f (x : Int) ≠ none → ca (x : Int) = cb (x : Int))) : laidCells cs em f ca = laidCells cs em g cb := by
 unfold laidCells
 congr 1
 funext j
 have he : comes f ca cs.length j = comes g cb cs.length j := by
  unfold comes
  refine find_congr _ fun x hx => ?_
  obtain ⟨h1, h2⟩ := h x (List.mem_range.1 hx)
  rw [← h1]
  by_cases h3 : f (x : Int) = some (j : Int)
  ·rw [h2 (by rw [h3]; simp)]
  ·rw [decide_eq_false h3]
   rfl
 rw [he]
theorem laid_at (cs em : List Int) (f : Int → Option Int) (hf : Fits f cs.length) (x c : Int) (hx : f x = some c) : rd (laidCells cs em f fun _ => true) c = rd cs x := by
 have h := laid_step cs em f (fun _ => true) hf x c hx;obtain ⟨h0, h1, h2, h3⟩ := hf.dom x c hx
 have e : (fun y : Int => (fun _ : Int => true) y || decide (y = x)) = fun _ => true := by
  funext y
  rfl
 rw [e] at h
 rw [h]
 unfold rd
 rw [List.getD_eq_getElem?_getD, List.getElem?_set, if_pos rfl, laid_len, if_pos (by omega)]
 rfl
theorem laid_off (cs em : List Int) (f : Int → Option Int) (came : Int → Bool) (c : Nat) (hc : c < cs.length) (hx : ∀ x : Nat, x < cs.length → f (x : Int) ≠ some (c : Int)) : rd (laidCells cs em f came) (c : Int) = rd em (c : Int) := by
 have h1 : comes f came cs.length c = none := by
  unfold comes
  rw [List.find?_eq_none]
  intro x hx2
  rw [decide_eq_false (hx x (List.mem_range.1 hx2))]
  simp
 have h2 : (laidCells cs em f came)[c]? = some (rd em (c : Int)) := by
  unfold laidCells
  rw [List.getElem?_map, List.getElem?_range hc]
  show some (match comes f came cs.length c with | some x => rd cs (x : Int) | none => rd em (c : Int)) = _
  rw [h1]
 show (laidCells cs em f came).getD (Int.toNat (c : Int)) 0 = _
 rw [Int.toNat_natCast, List.getD_eq_getElem?_getD, h2]
 rfl
end Go.Proofs.YtchjgphnglklcaaGreatDoor.Q
end
section
namespace Go.Proofs.YtchjgphnglklcaaGreatDoor.Q
set_option linter.unusedSectionVars false
open Go.RowKit Go.Proofs.YtchjgphnglklcaaGreatDoorW.PrintWords Go.Proofs.YtchjgphnglklcaaGreatDoorW.PrintLast Go.Proofs.YtchjgphnglklcaaGreatDoorW.PrintMore
theorem lk_same (x y : Int) : (lk x).sameKey (lk y) = decide (x = y) := by
 by_cases h : x = y
 ·rw [h, WideAt.sameKey_self (lk_key y)]
  simp
 ·rw [Maps.sameKey_ne (lk_ne h)]
  simp [h]
def cameL (left : Lit → Bool) (x : Int) : Bool := !left (lk x)
theorem came_start {D : DataW Unit} {f : Int → Option Int} (h : Holds D f) (cs em : List Int) (hl : em.length = cs.length) : laidCells cs em f (cameL (Maps.has D)) = em := by
 refine Eq.trans (laid_congr cs em f f _ (fun _ => false) fun x _ => ⟨rfl, fun hx => ?_⟩) (laid_none cs em f hl)
 unfold cameL
 rw [h.has']
 cases e : f (x : Int) with
 | none => exact absurd e hx
 | some c => rfl
theorem came_end (left : Lit → Bool) (h : ∀ kl, left kl = false) : cameL left = fun _ => true := by
 funext x
 unfold cameL
 rw [h]
 rfl
theorem came_step (left : Lit → Bool) (x : Int) : cameL (fun z => left z && !z.sameKey (lk x)) = fun y => cameL left y || decide (y = x) := by
 funext y
 unfold cameL
 show (!(left (lk y) && !(lk y).sameKey (lk x))) = _
 rw [lk_same]
 cases left (lk y) <;> cases decide (y = x) <;> rfl
theorem Holds.some {D : DataW Unit} {f : Int → Option Int} (h : Holds D f) {x c : Int} (ha : ∀ zd, D.atKey (lk x) zd = .lit (lk c)) : f x = some c := by
 have h1 := ha .nil
 rw [h.at'] at h1
 cases e : f x with
 | none =>
  rw [e] at h1
  cases h1
 | some c' =>
  rw [e] at h1
  injection h1 with h2
  injection h2 with h3 h4
  rw [h4]
theorem EM.turn {w W W1 : World} {gr go gb n c : Nat} {a b : Int} {xs : List Int} (h : EM w W gr go gb a b n c xs) {r : Nat} (hg : W.grownBy W1 (some r)) (hr : w.heap.size ≤ r) (hn : NC W r) : EM w W1 gr go gb a b n c xs :=
 ⟨h.below.grown hg h.below.size (fun k e => by cases e; exact hr), blk_turn h.res hg hn, blk_turn h.out hg hn, R_turn h.row hg hn, h.gr0, h.go0, h.gb0, h.ne, h.len⟩
set_option maxHeartbeats 16000000 in
set_option maxRecDepth 100000 in
theorem carried_calls (a0_0 a0_1 : Int) (A0_2 : Option Addr) (c0_2 : Nat) (l0_2 : List Int) (bm n : Nat) (f : Int → Option Int) (w : World) (hr0_2 : Kd.C (Kd.int .u8) w A0_2 l0_2.length l0_2) (hc0_2 : l0_2.length ≤ c0_2) (hl : 0 < l0_2.length ∧ l0_2.length ≤ 1000) (hm : MP w bm n f) (hf : Fits f l0_2.length) :
  Calls Tryz.prog 55 #[.agg #[.int .i64 a0_0, .int .i64 a0_1, .slice A0_2 l0_2.length c0_2], .map (some bm)] w fun e w' => ∃ v2_ : Value, e = .returned (.agg #[.int .i64 a0_0, .int .i64 a0_1, v2_]) ∧ Kd.R (Kd.int .u8) 5 w' w.heap.size (fun _ => True) v2_ (laidCells l0_2 (emptyC l0_2) f fun _ => true) ∧ Below w.heap.size w w' := by
 have hu := Tryz.underlying64;have HR := Aside0.mk hr0_2;have HC := Aside0.mk hc0_2;have HL := Aside0.mk hl;have HF := Aside0.mk hf;have HV := Aside0.mk (show impl_tray_emptied.f a0_0 a0_1 l0_2 = some (a0_0, a0_1, emptyC l0_2) from if_pos hl)
 have hel : (emptyC l0_2).length = l0_2.length := by unfold emptyC; rw [List.length_map]
 obtain ⟨D, hown, hh⟩ := hm;have MPD := Aside0.mk hown;have HH := Aside0.mk hh;obtain ⟨ad, ead, _⟩ := Kd.at_int hr0_2 0 (by omega) (by omega)
 cases ead
 generalize hem : emptyC l0_2 = em at HV hel ⊢;have HEL := Aside0.mk hel;clear hr0_2 hc0_2 hl hown hh hf hem hel
 go_enter Tryz.func55, Tryz.ntmps55
 go_wp2_with (first
  | ((with_reducible refine gate_dst (N := 2) rfl ?_); refine box_event ?hg (N := 2) ?hd (cs := #[.int .i64 a0_0, .int .i64 a0_1, .slice (some ad) l0_2.length c0_2]) (t := 64) ?hr ?_; (case hd => rfl); (case hg => rfl); (case hr => first | (go_simp; done) | (go_simp; rfl)); intro gt hg w1 hbox hb; (have HB1 := Aside0.mk hb); (have HT := Aside0.mk hbox); clear hbox hb hg)
  | ((with_reducible refine gate_dst (N := 4) rfl ?_); refine box_event ?hg (N := 4) ?hd (cs := #[.int .i64 0, .int .i64 0, .slice none 0 0]) (t := 64) ?hr ?_; (case hd => rfl); (case hg => rfl); (case hr => first | (go_simp; done) | (go_simp; rfl)); intro gr hg w2 hbox hb; (have HG2 := Aside0.mk (show w.heap.size ≤ gr by rw [hg]; exact HB1.out.size)); (have HB2 := Aside0.mk (below_then HB1.out HB1.out.size hb)); (have HT2 := Aside0.mk ((hb.block gt (blk_lt HT.out)).trans HT.out)); (have HRS := Aside0.mk hbox); (have z0 := (blk_cell HT2.out 0).trans rfl); (have z1 := (blk_cell HT2.out 1).trans rfl); (have z2 := (blk_cell HT2.out 2).trans rfl); clear hbox hb hg HT HB1))
 refine (impl_tray_emptied.calls a0_0 a0_1 _ c0_2 l0_2 a0_0 a0_1 em _ (Kd.C_below HR.out HB2.out) HC.out HV.out).mono ?_
 rintro e w3 ⟨v2, rfl, ho, hb3⟩
 have hen : em.length = l0_2.length := HEL.out;obtain ⟨gb, c, rfl, hgb, hlb, cl, hcl⟩ := Kd.R_form ho (by have := HL.out; omega)
 rw [hen] at ho
 have HB3 := Aside0.mk (below_then HB2.out HB2.out.size hb3);have HRS3 := Aside0.mk ((hb3.block gr (blk_lt HRS.out)).trans HRS.out);have HT3 := Aside0.mk ((hb3.block gt (blk_lt HT2.out)).trans HT2.out);have HO3 := Aside0.mk (Kd.R_lower ho HB2.out.size);have HGB := Aside0.mk (Nat.le_trans HB2.out.size hgb);clear z0 z1 z2 HT2 HRS HB2 ho hb3 hgb hlb hcl;have HEMR := Aside0.mk (came_start HH.out l0_2 em hen)
 go_wp2_with (first
  | ((with_reducible refine gate_dst (N := 5) rfl ?_); refine box_event ?hg (N := 5) ?hd (cs := #[.int .i64 0, .int .i64 0, .slice none 0 0]) (t := 64) ?hr ?_; (case hd => rfl); (case hg => rfl); (case hr => first | (go_simp; done) | (go_simp; rfl)); intro go hg w4 hbox hb; (have HGO := Aside0.mk (show w.heap.size ≤ go by rw [hg]; exact HB3.out.size)); (have HNE := Aside0.mk (show gr ≠ go by rw [hg]; exact Nat.ne_of_lt (blk_lt HRS3.out))); (have HNT := Aside0.mk (show gt ≠ go by rw [hg]; exact Nat.ne_of_lt (blk_lt HT3.out))); (have HB4 := Aside0.mk (below_then HB3.out HB3.out.size hb)); (have HRS4 := Aside0.mk ((hb.block gr (blk_lt HRS3.out)).trans HRS3.out)); (have HT4 := Aside0.mk ((hb.block gt (blk_lt HT3.out)).trans HT3.out)); (have HO4 := Aside0.mk (Kd.R_below HO3.out hb)); (have HU := Aside0.mk hbox); (have y0 := (blk_cell HU.out 0).trans rfl); (have y1 := (blk_cell HU.out 1).trans rfl); (have y2 := (blk_cell HU.out 2).trans rfl); (have f0 := blk_frozen HU.out 0); (have f1 := blk_frozen HU.out 1); (have f2 := blk_frozen HU.out 2); clear hbox hb hg HB3 HRS3 HT3 HO3)
  | ((with_reducible refine gate_store (t := 64) (p := 5) rfl ?_); refine store_event (t := 64) (p := 5) (v := ?vo) (w1 := (((w4.setCell ⟨go, 0, none⟩ (.int .i64 a0_0)).setCell ⟨go, 1, none⟩ (.int .i64 a0_1)).setCell ⟨go, 2, none⟩ (.slice (some ⟨gb, 0, none⟩) l0_2.length c))) ?hg ?ho ?hn ?hr ?_; (case ho => rfl); (case hg => rfl); (case hn => rfl); (case hr => first | (go_simp; done) | (go_simp; rfl)); intro w5 hw; (have HE := Aside0.mk (show EM w w5 gr go gb a0_0 a0_1 l0_2.length c em from by rw [hw]; exact ⟨below_set (below_set (below_set HB4.out HGO.out) HGO.out) HGO.out, blk_far (blk_far (blk_far HRS4.out HNE.out _) HNE.out _) HNE.out _, (by refine blk_put (cs := #[.int .i64 a0_0, .int .i64 a0_1, .slice none 0 0]) ?_ 2 _ rfl; refine blk_put (cs := #[.int .i64 a0_0, .int .i64 0, .slice none 0 0]) ?_ 1 _ rfl; refine blk_put (cs := #[.int .i64 0, .int .i64 0, .slice none 0 0]) ?_ 0 _ rfl; exact HU.out), Kd.R_mono (Kd.R_far (p := ⟨go, 2, none⟩) (Kd.R_far (p := ⟨go, 1, none⟩) (Kd.R_far (p := ⟨go, 0, none⟩) (Kd.R_types HO4.out HU.out (by decide)) (fun _ hk => hk.2) (.int .i64 a0_0)) (fun _ hk => hk.2) (.int .i64 a0_1)) (fun _ hk => hk.2) (.slice (some ⟨gb, 0, none⟩) l0_2.length c)) (fun _ _ => trivial), HG2.out, HGO.out, HGB.out, HNE.out, HEL.out⟩)); (have HT5 := Aside0.mk (show w5.heap[gt]? = some (.cells #[.int .i64 a0_0, .int .i64 a0_1, .slice (some ad) l0_2.length c0_2] 64 (0, 0)) from by rw [hw]; exact blk_far (blk_far (blk_far HT4.out HNT.out _) HNT.out _) HNT.out _)); clear hw HU HO4 HRS4 HT4 HB4 y0 y1 y2 f0 f1 f2)
  | (at_range; refine wpList_range_own _ rfl _ 83 rfl 3 3 keyI Tryz.underlying83 PE bm n D rfl (MPD.out.kept (grown_of_below HE.out.below none) (by simp)) ?_; intro w6 hrg hg6 hs6; (have HRG := Aside0.mk hrg); (have HE6 := Aside0.mk (HE.out.step (below_none hg6))); (have HT6 := Aside0.mk (((below_none hg6).block gt (blk_lt HT5.out)).trans HT5.out)); (have HRB := Aside0.mk HE.out.below.size); clear hrg hg6 hs6 HE HT5))
 go_frame
 generalize w5.heap.size = ri at HRG HRB ⊢;have HE7 := Aside0.mk (show EM w w6 gr go gb a0_0 a0_1 l0_2.length c (laidCells l0_2 em f (cameL (Maps.has D))) by rw [HEMR.out]; exact HE6.out);have HLL := Aside0.mk (show ∀ ca, (laidCells l0_2 em f ca).length = l0_2.length from fun ca => laid_len _ _ _ _);clear HE6 HEMR
 go_loopg [] (Maps.size D) (fun gg wr => ∃ (left : Lit → Bool) (cnt : Nat), Aside0 (cnt ≤ gg) ∧ Aside0 (wr.ranges Tryz.prog 3 PE bm ri n D left cnt) ∧ Aside0 (EM w wr gr go gb a0_0 a0_1 l0_2.length c (laidCells l0_2 em f (cameL left))) ∧ Aside0 (wr.heap[gt]? = some (.cells #[.int .i64 a0_0, .int .i64 a0_1, .slice (some ad) l0_2.length c0_2] 64 (0, 0))))
 case atStart => exact ⟨_, _, ⟨Nat.le_refl _⟩, HRG, HE7, HT6⟩
 case round =>
  clear HRG HE7 HT6;obtain ⟨left, cnt, HCN, HRG, HE, HT⟩ := hrel
  go_wp2_with (first
   | (at_next; refine wpList_next_ranges_ii _ rfl _ rfl 3 3 .i64 .i64 keyI Tryz.underlying3 Tryz.underlying3 bm ri n _ _ _ rfl HRG.out ?_ ?_))
  ·intro _ hl0
   have HE2 := Aside0.mk (show EM w wr gr go gb a0_0 a0_1 l0_2.length c (laidCells l0_2 em f fun _ => true) by rw [← came_end left hl0]; exact HE.out);clear HE HCN HRG hl0 HT;have y0 := (blk_cell HE2.out.out 0).trans rfl;have y1 := (blk_cell HE2.out.out 1).trans rfl;have y2 := (blk_cell HE2.out.out 2).trans rfl;have r0 := (blk_cell HE2.out.res 0).trans rfl;have r1 := (blk_cell HE2.out.res 1).trans rfl;have r2 := (blk_cell HE2.out.res 2).trans rfl;have g0 := blk_frozen HE2.out.res 0;have g1 := blk_frozen HE2.out.res 1;have g2 := blk_frozen HE2.out.res 2
   go_wp2_with fail
   refine bodyPost_ret (results_cell_row rfl _ _ gr 64 #[.int .i64 a0_0, .int .i64 a0_1, .slice (some ⟨gb, 0, none⟩) l0_2.length c] (0, 0) _ rfl (by refine blk_put (cs := #[.int .i64 a0_0, .int .i64 a0_1, .slice none 0 0]) ?_ 2 _ rfl; refine blk_put (cs := #[.int .i64 a0_0, .int .i64 0, .slice none 0 0]) ?_ 1 _ rfl; refine blk_put (cs := #[.int .i64 0, .int .i64 0, .slice none 0 0]) ?_ 0 _ rfl; exact HE2.out.res) Tryz.underlying64 rfl (by kernel_rfl)) rfl ?_
   exact ⟨_, rfl, Kd.R_mono (Kd.R_far (p := ⟨gr, 2, none⟩) (Kd.R_far (p := ⟨gr, 1, none⟩) (Kd.R_far (p := ⟨gr, 0, none⟩) (Kd.R_types HE2.out.row HE2.out.res (by decide)) (fun _ hk => hk.2) (.int .i64 a0_0)) (fun _ hk => hk.2) (.int .i64 a0_1)) (fun _ hk => hk.2) (.slice (some ⟨gb, 0, none⟩) l0_2.length c)) (fun _ _ => trivial), below_set (below_set (below_set HE2.out.below HE2.out.gr0) HE2.out.gr0) HE2.out.gr0⟩
  ·intro x cx w7 cnt1 hwx hwc hlx hat hrg1 hlt hg1 hs1 hen1
   have hfx := HH.out.some hat;obtain ⟨x0, x1, cx0, cx1⟩ := HF.out.dom x cx hfx;have HE7 := Aside0.mk (HE.out.turn hg1 HRB.out (ranges_nc HRG.out));have HT7 := Aside0.mk (blk_turn HT.out hg1 (ranges_nc HRG.out));have HRG7 := Aside0.mk hrg1;have HCN7 := Aside0.mk (show cnt1 < gk by have := HCN.out; omega);have hst := laid_step l0_2 em f (cameL left) HF.out x cx hfx
   rw [← came_step left x] at hst
   have HST := Aside0.mk (show laidCells l0_2 em f (cameL fun z => left z && !z.sameKey (.int .i64 x)) = (laidCells l0_2 em f (cameL left)).set cx.toNat (rd l0_2 x) from hst);have HTB := Aside0.mk (show gt ≠ gb from fun e => Kd.R_ne HE7.out.row HT7.out (by decide) (by rw [e]; rfl));clear hst hfx hat hrg1 hlt hg1 hs1 HE HT HRG HCN hlx hwx hwc;have y0 := (blk_cell HE7.out.out 0).trans rfl;have y1 := (blk_cell HE7.out.out 1).trans rfl;have y2 := (blk_cell HE7.out.out 2).trans rfl;have z0 := (blk_cell HT7.out 0).trans rfl;have z1 := (blk_cell HT7.out 1).trans rfl;have z2 := (blk_cell HT7.out 2).trans rfl;have p1 : (0 ≤ x) = True := eq_true x0;have p2 : (x < (l0_2.length : Int)) = True := eq_true x1;have p3 : (0 ≤ cx) = True := eq_true cx0;have p4 : (cx < (l0_2.length : Int)) = True := eq_true cx1;obtain ⟨ad7, ead7, hx7⟩ := Kd.at_int (Kd.C_below HR.out HE7.out.below) x x0 x1
   cases ead7
   obtain ⟨_, fz⟩ := Kd.R_celln 0 HE7.out.row cx cx0 (by have e := HLL.out (cameL left); omega)
   go_wp2
   go_region
   go_wp2
   go_roundg cnt1
   case measure => exact HCN7.out
   case rel =>
    refine ⟨_, cnt1, ⟨Nat.le_refl _⟩, ⟨ranges_drew (ranges_set HRG7.out (R_nc HE7.out.row (ranges_mnc HRG7.out)) (R_nc HE7.out.row (ranges_nc HRG7.out)) _ _)⟩, ?_, ⟨blk_far HT7.out HTB.out _⟩⟩
    rw [HST.out]
    exact ⟨(HE7.out.set cx (rd l0_2 x)).step (Below.drew (Below.refl _ _))⟩
end Go.Proofs.YtchjgphnglklcaaGreatDoor.Q
end
section
namespace Go.Proofs.YtchjgphnglklcaaGreatDoor.Q
set_option linter.unusedSectionVars false
open Go.RowKit Go.Proofs.YtchjgphnglklcaaGreatDoorW.PrintWords Go.Proofs.YtchjgphnglklcaaGreatDoorW.PrintLast Go.Proofs.YtchjgphnglklcaaGreatDoorW.PrintMore
def asF : List (Int × Int) → Int → Option Int
 | [] => fun _ => none
 | (k, v) :: l => upd (asF l) k v
def fitsB (m : List (Int × Int)) (n : Nat) : Bool := m.all (fun p => decide (0 ≤ p.1) && decide (p.1 < (n : Int)) && decide (0 ≤ p.2) && decide (p.2 < (n : Int))) && m.all (fun p => m.all fun q => !decide (p.2 = q.2) || decide (p.1 = q.1))
theorem asF_mem : ∀ (m : List (Int × Int)) (x c : Int), asF m x = some c → (x, c) ∈ m
 | [], x, c, h => by cases h
 | (k, v) :: m, x, c, h => by
  unfold asF upd at h
  by_cases e : x = k
  ·rw [if_pos e] at h
   rw [e, ← Option.some.inj h]
   exact List.mem_cons_self
  ·rw [if_neg e] at h
   exact List.mem_cons_of_mem _ (asF_mem m x c h)
theorem wpList_put {P : Program} {ops : Array Oper} {rest : List Oper} {o : Oper} {a : Act} {Q : Exit → Act → World → Prop} (hP : P = Tryz.prog) (w : World) (hg : o.guard = none) (m x v : Operand) (t : TypeId) (hop : o.op = .mapUpdate t m x v) (ht : Tryz.prog.underlying t = some (.map 3 3))
  (b n : Nat) (f : Int → Option Int) (h : MP w b n f) (hn : n < 1000000) (kx c : Int) (hm : a.eval m = .map (some b)) (hx : a.eval x = .int .i64 kx) (hv : a.eval v = .int .i64 c) (hb : 0 ≤ kx ∧ kx ≤ 1000000 ∧ 0 ≤ c ∧ c ≤ 1000000)
  (hK : ∀ w', MP w' b (n + 1) (upd f kx c) → w.grownBy w' (some b) → wpList P ops Q rest (a.put o.dst undef) w') : wpList P ops Q (o :: rest) a w := by
 subst hP;obtain ⟨D, hown, hh⟩ := h
 exact wpList_mapUpdate_own w hg m x v t hop 3 3 keyI ht PE b n D hm hown (by unfold maxLen; omega) _ _ (lk kx) hx hv (Maps.keyOf_int_mk Tryz.underlying3 (lk_wf hb.1 hb.2.1)) (.lit (lk c)) [] (pe_int (lk_wf hb.2.2.1 hb.2.2.2)) fun w' h1 h2 => hK w' ⟨_, h1, hh.put kx c⟩ h2
section
variable {α : Type} {d : Kd α} {e base b n : Nat} {ok : Nat → Prop} {w w1 : World} {v : Value} {xs : List α} {f : Int → Option Int}
theorem S_turn (h : Kd.S d e w base ok v xs) {r : Nat} (hg : w.grownBy w1 (some r)) (hn : NC w r) : Kd.S d e w1 base ok v xs := by
 obtain ⟨g, h⟩ := h
 exact ⟨g, R_turn h hg hn⟩
theorem S_blw (h : Kd.S d e w base ok v xs) (hb : Below w.heap.size w w1) : Kd.S d e w1 base ok v xs := by
 obtain ⟨g, h⟩ := h
 exact ⟨g, Kd.R_below h hb⟩
end
end Go.Proofs.YtchjgphnglklcaaGreatDoor.Q
end
section
namespace Go.Proofs.YtchjgphnglklcaaGreatDoor.Q
set_option linter.unusedSectionVars false
open Go.RowKit Go.Proofs.YtchjgphnglklcaaGreatDoorW.PrintWords Go.Proofs.YtchjgphnglklcaaGreatDoorW.PrintLast Go.Proofs.YtchjgphnglklcaaGreatDoorW.PrintMore
def slC (cs own : List Int) : List Int → Nat → List (Int × Int) → Option (List (Int × Int))
 | [], _, m => some m
 | x :: l, nx, m => if 0 ≤ x ∧ x < (cs.length : Int) ∧ x ≤ 1000000 then (impl_isBall.f (rd cs x)).bind fun b => if b = true then (if nx < own.length ∧ 0 ≤ own.getD nx 0 ∧ own.getD nx 0 ≤ 1000000 ∧ m.length < 1000000 then slC cs own l (nx + 1) ((x, own.getD nx 0) :: m) else none) else slC cs own l nx m else none
def slP (cs : List Int) : List (List Int) → List (Int × Int) → Option (List (Int × Int))
 | [], m => some m
 | p :: P, m => if p.length ≤ 1000 then (slC cs p p 0 m).bind fun m => slP cs P m else none
def impl_tray_slide.f (k : Nat) (w h : Int) (cs : List Int) (dir : Int) : Option (List (Int × Int)) :=
 (impl_tray_stretches.f k w h cs dir).bind fun P => if P.length ≤ 1000 then slP cs P [] else none
theorem fits_tilt {m : List (Int × Int)} {n : Nat} (h : fitsB m n = true) : Fits (asF m) n := by
 unfold fitsB at h
 rw [Bool.and_eq_true, List.all_eq_true, List.all_eq_true] at h
 refine ⟨fun x c hx => ?_, fun x y c hx hy => ?_⟩
 ·have h1 := h.1 _ (asF_mem m x c hx)
  simp only [Bool.and_eq_true, decide_eq_true_eq] at h1
  omega
 ·have h1 := List.all_eq_true.1 (h.2 _ (asF_mem m x c hx)) _ (asF_mem m y c hy)
  simpa using h1
theorem drop_at {α : Type} (L : List α) (d : α) (i : Nat) (h : i < L.length) : L.drop i = L.getD i d :: L.drop (i + 1) := by
 rw [List.drop_eq_getElem_cons h, List.getD_eq_getElem?_getD, List.getElem?_eq_getElem h]
 rfl
theorem wrap64_nat (n : Nat) (h : n < 1000000) : wrap64 ((n : Int) + 1) = ((n + 1 : Nat) : Int) := by unfold wrap64; omega
set_option maxHeartbeats 16000000 in
set_option maxRecDepth 100000 in
theorem impl_tray_slide.calls (k : Nat) (a0_0 a0_1 : Int) (A0_2 : Option Addr) (c0_2 : Nat) (l0_2 : List Int) (a1 : Int) (r : List (Int × Int)) (w : World) (hr0_2 : Kd.C (Kd.int .u8) w A0_2 l0_2.length l0_2) (hc0_2 : l0_2.length ≤ c0_2) (h : impl_tray_slide.f k a0_0 a0_1 l0_2 a1 = some r) :
  Calls Tryz.prog 56 #[.agg #[.int .i64 a0_0, .int .i64 a0_1, .slice A0_2 l0_2.length c0_2], .int .u8 a1] w fun e w' => ∃ bm : Nat, e = .returned (.map (some bm)) ∧ w.heap.size ≤ bm ∧ MP w' bm r.length (asF r) ∧ Below w.heap.size w w' := by
 unfold impl_tray_slide.f at h;obtain ⟨P, hP, h⟩ := Option.bind_eq_some_iff.1 h
 split at h
 case isFalse => cases h
 rename_i hlen
 have HR := Aside0.mk hr0_2;have HC := Aside0.mk hc0_2;have HP := Aside0.mk hP;have HSL := Aside0.mk h;have HLEN := Aside0.mk hlen;have hu := Tryz.underlying64;clear hr0_2 hc0_2 hP h hlen
 go_enter Tryz.func56, Tryz.ntmps56
 go_wp2_with (first
  | ((with_reducible refine gate_dst (N := 2) rfl ?_); refine box_event ?hg (N := 2) ?hd (cs := #[.int .i64 a0_0, .int .i64 a0_1, .slice A0_2 l0_2.length c0_2]) (t := 64) ?hr ?_; (case hd => rfl); (case hg => rfl); (case hr => first | (go_simp; done) | (go_simp; rfl)); intro gt hg w1 hbox hb; (have HB2 := Aside0.mk (below_alloc hb (.map #[] 0))); (have HBM := Aside0.mk hb.size); (have HT := Aside0.mk (blk_alloc hbox (.map #[] 0))); (have HM := Aside0.mk (MP.made w1)); (have hmm := run_makeMap (P := Tryz.prog) 83 w1); (have z0 := (blk_cell HT.out 0).trans rfl); (have z1 := (blk_cell HT.out 1).trans rfl); (have z2 := (blk_cell HT.out 2).trans rfl); clear hbox hb hg)
  | (go_at_call 77; refine (impl_tray_stretches.calls k a0_0 a0_1 A0_2 c0_2 l0_2 a1 P _ (Kd.C_below HR.out HB2.out) HC.out HP.out).mono ?_))
 rintro e w3 ⟨v0, rfl, hS, hb3⟩
 have HB3 := Aside0.mk (below_then HB2.out HB2.out.size hb3);have HM3 := Aside0.mk (HM.out.below hb3);have HT3 := Aside0.mk ((hb3.block gt (blk_lt HT.out)).trans HT.out);have HO3 := Aside0.mk (Kd.S_lower hS HB2.out.size);clear z0 z1 z2 hS hb3 HM HT HB2 hmm;generalize w1.heap.size = bm at HM3 HBM ⊢;obtain ⟨As, cs, es⟩ := Kd.S_slice HO3.out;subst es
 go_wp2_with fail
 go_loopg [16] P.length (fun gg v16 wr => ∃ (i : Nat) (m1 : List (Int × Int)), v16 = .int .i64 i ∧ Aside0 (i ≤ P.length ∧ P.length - i ≤ gg ∧ slP l0_2 (P.drop i) m1 = some r) ∧ Aside0 (MP wr bm m1.length (asF m1)) ∧ Aside0 (Kd.S (Kd.slice 3 (Kd.int .i64)) 39 wr w.heap.size (fun _ => True) (.slice As P.length cs) P) ∧ Aside0 (wr.heap[gt]? = some (.cells #[.int .i64 a0_0, .int .i64 a0_1, .slice A0_2 l0_2.length c0_2] 64 (0, 0))) ∧ Aside0 (Below w.heap.size w wr))
 case atStart => exact ⟨0, [], rfl, ⟨Nat.zero_le _, Nat.le_refl _, by rw [List.drop_zero]; exact HSL.out⟩, HM3, HO3, HT3, HB3⟩
 case round =>
  clear HM3 HO3 HT3 HB3 HSL;obtain ⟨i, m1, rfl, HA, HM, HO, HT, HB⟩ := hrel
  by_cases hli : i < P.length
  ·have c2 : decide ((i : Int) < (P.length : Int)) = true := decide_eq_true (by omega)
   have p1 : (0 ≤ (i : Int)) = True := eq_true (by omega);have p2 : ((i : Int) < (P.length : Int)) = True := eq_true (by omega);have hsp := HA.out.2.2
   rw [drop_at P [] i hli] at hsp
   obtain ⟨hpl, hsp⟩ : (P.getD i []).length ≤ 1000 ∧ ((slC l0_2 (P.getD i []) (P.getD i []) 0 m1).bind fun m => slP l0_2 (P.drop (i + 1)) m) = some r := by
    unfold slP at hsp
    split at hsp
    ·rename_i hc
     exact ⟨hc, hsp⟩
    ·cases hsp
   obtain ⟨m2, hsc, hsp⟩ := Option.bind_eq_some_iff.1 hsp;have HSP := Aside0.mk hsp;obtain ⟨ad5, A5, c5, e5, hx5, hl5, hi5⟩ := at_S (Kd.S_reads' HO.out).2.2 (i : Int) (by omega) (by omega)
   cases e5
   obtain ⟨ce5, hce5, hMe5, hcc5⟩ := Kd.S_get HO.out [] (i : Int) (by omega) (by omega);obtain ⟨ve5, rfl, ge5⟩ := hMe5;have hv5 := hcc5 0 _ rfl
   rw [Nat.add_zero, show ((Kd.slice 3 (Kd.int .i64))).sz = 1 from rfl, Nat.mul_one] at hv5
   replace hv5 := Option.some.inj (hv5.symm.trans hx5)
   rw [hv5] at ge5
   have hrd : rdS P (i : Int) = P.getD i [] := by unfold rdS; rw [Int.toNat_natCast]
   have HL5 := Aside0.mk (show Kd.R (Kd.int .i64) 3 wr w.heap.size (fun _ => True) (.slice A5 (rdS P (i : Int)).length c5) (rdS P (i : Int)) from Kd.R_mono ge5 (fun _ _ => trivial))
   rw [hrd] at HL5 hx5 hl5
   rw [Int.toNat_natCast] at hx5
   clear hv5 hcc5 hce5 hi5 ge5 hrd hsp;generalize P.getD i [] = pc at hpl hsc HL5 hx5 hl5;have HPC := Aside0.mk hpl;have HSC := Aside0.mk hsc;have HCP := Aside0.mk hl5;have HGK2 := Aside0.mk (show P.length - i ≤ gk ∧ i < P.length from ⟨HA.out.2.1, hli⟩);clear hsc hpl HA hli hl5
   go_wp2_with fail
   go_loopg [8, 22] pc.length (fun gg v8 v22 wr => ∃ (u nx : Nat) (m3 : List (Int × Int)), v8 = .int .i64 nx ∧ v22 = .int .i64 u ∧ Aside0 (u ≤ pc.length ∧ pc.length - u ≤ gg ∧ nx ≤ u ∧ slC l0_2 pc (pc.drop u) nx m3 = some m2) ∧ Aside0 (MP wr bm m3.length (asF m3)) ∧ Aside0 (Kd.S (Kd.slice 3 (Kd.int .i64)) 39 wr w.heap.size (fun _ => True) (.slice (some ad5) P.length cs) P) ∧ Aside0 (Kd.R (Kd.int .i64) 3 wr w.heap.size (fun _ => True) (.slice A5 pc.length c5) pc) ∧ Aside0 (wr.heap[gt]? = some (.cells #[.int .i64 a0_0, .int .i64 a0_1, .slice A0_2 l0_2.length c0_2] 64 (0, 0))) ∧ Aside0 (Below w.heap.size w wr))
   case atStart => exact ⟨0, 0, m1, rfl, rfl, ⟨Nat.zero_le _, by omega, Nat.le_refl _, by rw [List.drop_zero]; exact HSC.out⟩, HM, HO, HL5, HT, HB⟩
   case round =>
    clear HSC HM HO HL5 HT HB hx5 c2 p1 p2;obtain ⟨u, nx, m3, rfl, rfl, HA3, HMX, HOX, HLX, HTX, HBX⟩ := hrel
    by_cases hlu : u < pc.length
    ·have c3 : decide ((u : Int) < (pc.length : Int)) = true := decide_eq_true (by omega)
     have p3 : (0 ≤ (u : Int)) = True := eq_true (by omega);have p4 : ((u : Int) < (pc.length : Int)) = True := eq_true (by omega);have hbq := HA3.out.2.2.2
     rw [drop_at pc 0 u hlu] at hbq
     obtain ⟨ad3, e3, hx3⟩ := Kd.at_int (Kd.R_reads' HLX.out).2.2 (u : Int) (by omega) (by omega)
     cases e3
     rw [Int.toNat_natCast] at hx3
     rw [show rd pc (u : Int) = pc.getD u 0 from by unfold rd; rw [Int.toNat_natCast]] at hx3
     generalize pc.getD u 0 = x at hx3 hbq;unfold slC at hbq
     split at hbq
     case isFalse => cases hbq
     rename_i hxr
     obtain ⟨b, hb1, hbq⟩ := Option.bind_eq_some_iff.1 hbq;have p5 : (0 ≤ x) = True := eq_true hxr.1;have p6 : (x < (l0_2.length : Int)) = True := eq_true hxr.2.1;obtain ⟨ad7, e7, hx7⟩ := Kd.at_int (Kd.C_below HR.out HBX.out) x hxr.1 hxr.2.1
     cases e7
     have HXR := Aside0.mk hxr;have HIB := Aside0.mk hb1;have HNXT := Aside0.mk hbq;have HGK3 := Aside0.mk (show pc.length - u ≤ gk ∧ u < pc.length ∧ nx ≤ u from ⟨HA3.out.2.1, hlu, HA3.out.2.2.1⟩);have z0 := (blk_cell HTX.out 0).trans rfl;have z1 := (blk_cell HTX.out 1).trans rfl;have z2 := (blk_cell HTX.out 2).trans rfl;clear hbq hb1 hxr HA3 hlu
     go_wp2_with fail
     refine (impl_isBall.calls (rd l0_2 x) b _ HIB.out).mono ?_
     rintro e w6 ⟨rfl, hd⟩
     have hb9 := hd.below;have HM6 := Aside0.mk (HMX.out.below hb9);have HO6 := Aside0.mk (S_blw HOX.out hb9);have HL6 := Aside0.mk (Kd.R_below HLX.out hb9);have HT6 := Aside0.mk ((hb9.block gt (blk_lt HTX.out)).trans HTX.out);have HB6 := Aside0.mk (below_then HBX.out HBX.out.size hb9);clear hd hb9 hx3 hx7 z0 z1 z2 HMX HOX HLX HTX HBX HIB p3 p4 p5 p6 c3
     cases b with
     | true =>
      have hnx := HNXT.out
      rw [if_pos rfl] at hnx
      split at hnx
      case isFalse => cases hnx
      rename_i hcn
      have HCN := Aside0.mk hcn;have HN2 := Aside0.mk hnx;obtain ⟨ad8, e8, hx8⟩ := Kd.at_int (Kd.R_reads' HL6.out).2.2 (nx : Int) (by omega) (by omega)
      cases e8
      rw [Int.toNat_natCast] at hx8
      rw [show rd pc (nx : Int) = pc.getD nx 0 from by unfold rd; rw [Int.toNat_natCast]] at hx8
      have p3 : (0 ≤ (nx : Int)) = True := eq_true (by omega);have p4 : ((nx : Int) < (pc.length : Int)) = True := eq_true (by omega);clear hcn hnx HNXT
      go_wp2_with (first
       | (at_mapUpdate; refine wpList_put rfl _ rfl _ _ _ 83 rfl Tryz.underlying83 bm m3.length (asF m3) HM6.out HCN.out.2.2.2 x (pc.getD nx 0) rfl rfl rfl ⟨HXR.out.1, HXR.out.2.2, HCN.out.2.1, HCN.out.2.2.1⟩ ?_; intro w8 hm8 hg8; (have HM8 := Aside0.mk hm8); (have HL8 := Aside0.mk (R_turn HL6.out hg8 HM6.out.nc)); (have HO8 := Aside0.mk (S_turn HO6.out hg8 HM6.out.nc)); (have HT8 := Aside0.mk (blk_turn HT6.out hg8 HM6.out.nc)); (have HB8 := Aside0.mk (HB6.out.grown hg8 HB6.out.size (fun k e => by cases e; exact HBM.out))); clear hm8 hg8 HM6 HL6 HO6 HT6 HB6 hx8))
      go_roundg (pc.length - (u + 1))
      case measure => have := HGK3.out; omega
      case rel => exact ⟨u + 1, nx + 1, (x, pc.getD nx 0) :: m3, by first | rfl | rw [wrap64_nat nx (by have := HGK3.out; have := HPC.out; omega)] | simp, by first | rfl | rw [wrap64_nat u (by have := HGK3.out; have := HPC.out; omega)] | simp, ⟨by have := HGK3.out; omega, Nat.le_refl _, by have := HGK3.out; omega, HN2.out⟩, HM8, HO8, HL8, HT8, HB8⟩
     | false =>
      have hnx := HNXT.out
      rw [if_neg (by decide)] at hnx
      have HN2 := Aside0.mk hnx;clear hnx HNXT
      go_wp2
      go_roundg (pc.length - (u + 1))
      case measure => have := HGK3.out; omega
      case rel => exact ⟨u + 1, nx, m3, rfl, by first | rfl | rw [wrap64_nat u (by have := HGK3.out; have := HPC.out; omega)] | simp, ⟨by have := HGK3.out; omega, Nat.le_refl _, by have := HGK3.out; omega, HN2.out⟩, HM6, HO6, HL6, HT6, HB6⟩
    ·obtain rfl : u = pc.length := by have := HA3.out.1; omega
     have c3 : decide ((pc.length : Int) < (pc.length : Int)) = false := decide_eq_false (by omega);have he := HA3.out.2.2.2
     rw [List.drop_length] at he
     obtain rfl : m3 = m2 := Option.some.inj he;clear he HA3 hlu
     go_wp2
     go_roundg (P.length - (i + 1))
     case measure => have := HGK2.out; omega
     case rel => exact ⟨i + 1, m3, by first | rfl | rw [wrap64_nat i (by have := HGK2.out; have := HLEN.out; omega)] | simp, ⟨by have := HGK2.out; omega, Nat.le_refl _, HSP.out⟩, HMX, HOX, HTX, HBX⟩
  ·obtain rfl : i = P.length := by have := HA.out.1; omega
   have c2 : decide ((P.length : Int) < (P.length : Int)) = false := decide_eq_false (by omega);have he := HA.out.2.2
   rw [List.drop_length] at he
   obtain rfl : m1 = r := Option.some.inj he;clear he HA hli
   go_wp2
   go_ret
   exact ⟨bm, rfl, HBM.out, HM.out, HB.out⟩
end Go.Proofs.YtchjgphnglklcaaGreatDoor.Q
end
section
namespace Go.Proofs.YtchjgphnglklcaaGreatDoor.Q
set_option linter.unusedSectionVars false
open Go.RowKit Go.Proofs.YtchjgphnglklcaaGreatDoorW.PrintWords Go.Proofs.YtchjgphnglklcaaGreatDoorW.PrintLast Go.Proofs.YtchjgphnglklcaaGreatDoorW.PrintMore
def impl_tray_tilted.f (k : Nat) (w h : Int) (cs : List Int) (dir : Int) : Option (Int × Int × List Int) :=
 (impl_tray_slide.f k w h cs dir).bind fun m => if (0 < cs.length ∧ cs.length ≤ 1000) ∧ fitsB m cs.length = true then some (w, h, laidCells cs (emptyC cs) (asF m) (fun _ => true)) else none
set_option maxHeartbeats 16000000 in
set_option maxRecDepth 100000 in
theorem impl_tray_tilted.calls (k : Nat) (a0_0 a0_1 : Int) (A0_2 : Option Addr) (c0_2 : Nat) (l0_2 : List Int) (a1 : Int) (r1 r2 : Int) (r3 : List Int) (w : World) (hr0_2 : Kd.C (Kd.int .u8) w A0_2 l0_2.length l0_2) (hc0_2 : l0_2.length ≤ c0_2) (h : impl_tray_tilted.f k a0_0 a0_1 l0_2 a1 = some (r1, r2, r3)) :
  Calls Tryz.prog 40 #[.agg #[.int .i64 a0_0, .int .i64 a0_1, .slice A0_2 l0_2.length c0_2], .int .u8 a1] w fun e w' => ∃ v2_ : Value, e = .returned (.agg #[.int .i64 r1, .int .i64 r2, v2_]) ∧ Kd.R (Kd.int .u8) 5 w' w.heap.size (fun _ => True) v2_ r3 ∧ Below w.heap.size w w' := by
 unfold impl_tray_tilted.f at h;obtain ⟨m, hm, h⟩ := Option.bind_eq_some_iff.1 h
 split at h
 case isFalse => cases h
 rename_i hcond
 simp only [Option.some.injEq, Prod.mk.injEq] at h
 obtain ⟨rfl, rfl, rfl⟩ := h;have HR := Aside0.mk hr0_2;have HC := Aside0.mk hc0_2;have HP := Aside0.mk hm;have HCD := Aside0.mk hcond;have hu := Tryz.underlying64;clear hr0_2 hc0_2 hm hcond
 go_enter Tryz.func40, Tryz.ntmps40
 go_wp2_with (first
  | ((with_reducible refine gate_dst (N := 2) rfl ?_); refine box_event ?hg (N := 2) ?hd (cs := #[.int .i64 a0_0, .int .i64 a0_1, .slice A0_2 l0_2.length c0_2]) (t := 64) ?hr ?_; (case hd => rfl); (case hg => rfl); (case hr => first | (go_simp; done) | (go_simp; rfl)); intro gt hg w1 hbox hb; (have HB1 := Aside0.mk hb); (have HT := Aside0.mk hbox); clear hbox hb hg)
  | ((with_reducible refine gate_dst (N := 4) rfl ?_); refine box_event ?hg (N := 4) ?hd (cs := #[.int .i64 0, .int .i64 0, .slice none 0 0]) (t := 64) ?hr ?_; (case hd => rfl); (case hg => rfl); (case hr => first | (go_simp; done) | (go_simp; rfl)); intro gr hg w2 hbox hb; (have HG2 := Aside0.mk (show w.heap.size ≤ gr by rw [hg]; exact HB1.out.size)); (have HB2 := Aside0.mk (below_drew1 (below_then HB1.out HB1.out.size hb))); (have HT2 := Aside0.mk (blk_drew ((hb.block gt (blk_lt HT.out)).trans HT.out))); (have HRS := Aside0.mk (blk_drew hbox)); (have z0 := (blk_cell HT2.out 0).trans rfl); (have z1 := (blk_cell HT2.out 1).trans rfl); (have z2 := (blk_cell HT2.out 2).trans rfl); clear hbox hb hg HT HB1))
 go_region_with (first
  | (refine (impl_tray_slide.calls k a0_0 a0_1 A0_2 c0_2 l0_2 a1 m _ (Kd.C_below HR.out HB2.out) HC.out HP.out).mono ?_; rintro e w3 ⟨bm, rfl, hbm, hM, hb3⟩; (have HB3 := Aside0.mk (below_then HB2.out HB2.out.size hb3)); (have HM3 := Aside0.mk hM); (have HT3 := Aside0.mk ((hb3.block gt (blk_lt HT2.out)).trans HT2.out)); (have HRS3 := Aside0.mk ((hb3.block gr (blk_lt HRS.out)).trans HRS.out)); (have y0 := (blk_cell HT3.out 0).trans rfl); (have y1 := (blk_cell HT3.out 1).trans rfl); (have y2 := (blk_cell HT3.out 2).trans rfl); clear hM hb3)
  | (refine (carried_calls a0_0 a0_1 A0_2 c0_2 l0_2 bm m.length (asF m) _ (Kd.C_below HR.out HB3.out) HC.out HCD.out.1 HM3.out (fits_tilt HCD.out.2)).mono ?_; rintro e w9 ⟨v2, rfl, hr, hb9⟩; (have HR9 := Aside0.mk (Kd.R_lower hr HB3.out.size)); (have HG9 := Aside0.mk ((hb9.block gr (blk_lt HRS3.out)).trans HRS3.out)); (have HB9 := Aside0.mk (below_then HB3.out HB3.out.size hb9)); (obtain ⟨Ar, cr, rfl⟩ := Kd.R_slice HR9.out); (have g0 := blk_frozen HG9.out 0); (have g1 := blk_frozen HG9.out 1); (have g2 := blk_frozen HG9.out 2); (have r0 := (blk_cell HG9.out 0).trans rfl); (have r1 := (blk_cell HG9.out 1).trans rfl); (have r2 := (blk_cell HG9.out 2).trans rfl); clear hr hb9))
 all_goals go_wp2
 all_goals
  refine bodyPost_ret (results_cell_row rfl _ _ gr 64 #[.int .i64 a0_0, .int .i64 a0_1, .slice Ar (laidCells l0_2 (emptyC l0_2) (asF m) fun _ => true).length cr] (0, 0) _ rfl (by refine blk_put (cs := #[.int .i64 a0_0, .int .i64 a0_1, .slice none 0 0]) ?_ 2 _ rfl; refine blk_put (cs := #[.int .i64 a0_0, .int .i64 0, .slice none 0 0]) ?_ 1 _ rfl; refine blk_put (cs := #[.int .i64 0, .int .i64 0, .slice none 0 0]) ?_ 0 _ rfl; exact HG9.out) Tryz.underlying64 rfl (by kernel_rfl)) rfl ?_
  exact ⟨_, rfl, Kd.R_mono (Kd.R_far (p := ⟨gr, 2, none⟩) (Kd.R_far (p := ⟨gr, 1, none⟩) (Kd.R_far (p := ⟨gr, 0, none⟩) (Kd.R_types HR9.out HG9.out (by decide)) (fun _ hk => hk.2) (.int .i64 a0_0)) (fun _ hk => hk.2) (.int .i64 a0_1)) (fun _ hk => hk.2) (.slice Ar (laidCells l0_2 (emptyC l0_2) (asF m) fun _ => true).length cr)) (fun _ _ => trivial), below_set (below_set (below_set HB9.out HG2.out) HG2.out) HG2.out⟩
end Go.Proofs.YtchjgphnglklcaaGreatDoor.Q
end
section
namespace Go.Proofs.YtchjgphnglklcaaGreatDoor.Q
open Go.RowKit Go.Proofs.YtchjgphnglklcaaGreatDoorW.PrintWords Go.Proofs.YtchjgphnglklcaaGreatDoorW.PrintLast Go.Proofs.YtchjgphnglklcaaGreatDoorW.PrintMore
attribute [local go_sem] max2_int min2_int max_two min_two max_three min_three max_four min_four
set_option linter.unusedVariables false
set_option linter.unusedSimpArgs false
def spec_tyCopy.f (a0_0 : Int) (a0_1 : Int) (l0_2 : List Int) : Option (Int × Int × List Int) := (some (([] : List Int) : List Int)).bind fun y103 => (if y103.length + l0_2.length < 140737488355328 then (some (a0_0, a0_1, (y103 ++ l0_2))) else (none))
def spec_tyCopy.T1 : Bool × List (List Nat × List Nat) := (true, [([], []), ([0], [0]), ([], []), ([2], [2]), ([], []), ([], []), ([5], [5]), ([4, 6], [4, 6]), ([1, 3, 7], [1, 3, 7]), ([8, 7, 0, 1, 2, 3, 4, 5, 6, 7, 8], [8])])
def spec_tyCopy.B1 : List Nat := [0, 1, 0, 4, 0, 0, 32, 112, 255, 511]
theorem spec_tyCopy.tab1 : rtab .any (opsOf Tryz.f86 1) = spec_tyCopy.T1 := by kernel_rfl
theorem spec_tyCopy.bits1 : waitsOk spec_tyCopy.T1.2 spec_tyCopy.B1 = true := by kernel_rfl
set_option maxHeartbeats 8000000 in
set_option maxRecDepth 100000 in
theorem spec_tyCopy.calls (a0_0 : Int) (a0_1 : Int) (A0_2 : Option Addr) (c0_2 : Nat) (l0_2 : List Int) (r1 : Int) (r2 : Int) (r3 : List Int) (w : World) (hr0_2 : Kd.C (Kd.int .u8) w A0_2 l0_2.length l0_2) (hc0_2 : l0_2.length ≤ c0_2) (h : spec_tyCopy.f a0_0 a0_1 l0_2 = some (r1, r2, r3)) :
  Calls Tryz.prog 86 #[.agg #[.int .i64 a0_0, .int .i64 a0_1, .slice A0_2 l0_2.length c0_2]] w fun e w' => ∃ v2_ : Value, e = .returned (.agg #[.int .i64 r1, .int .i64 r2, v2_]) ∧ Kd.R (Kd.int .u8) 5 w' w.heap.size (fun _ => True) v2_ r3 ∧ Below w.heap.size w w' := by
 have hu38 := Tryz.underlying38;have HR0_2 := Aside0.mk hr0_2;have HC0_2 := Aside0.mk hc0_2;clear hr0_2 hc0_2;have HB := Aside0.mk (Below.refl w.heap.size w);have H : ((some (([] : List Int) : List Int)).bind fun y103 => (if y103.length + l0_2.length < 140737488355328 then (some (a0_0, a0_1, (y103 ++ l0_2))) else (none))) = some (r1, r2, r3) := h;clear h;obtain ⟨y103, hy103⟩ : ∃ y_ : List Int, y_ = (([] : List Int)) := ⟨_, rfl⟩;replace H : (if y103.length + l0_2.length < 140737488355328 then (some (a0_0, a0_1, (y103 ++ l0_2))) else (none)) = some (r1, r2, r3) := rH hy103 H;have Ny103 := Aside0.mk hy103;clear hy103
 by_cases c2 : y103.length + l0_2.length < 140737488355328
 ·rw [if_pos c2] at H
  have LMc2 := Aside0.mk c2;clear c2;obtain ⟨y106, hy106⟩ : ∃ y_ : List Int, y_ = (y103 ++ l0_2) := ⟨_, rfl⟩;replace H : (some (a0_0, a0_1, y106)) = some (r1, r2, r3) := rH hy106 H;have Ny106 := Aside0.mk hy106;clear hy106
  simp only [Option.some.injEq, Prod.mk.injEq] at H
  obtain ⟨rfl, rfl, rfl⟩ := H
  go_enter Tryz.func86, Tryz.ntmps86
  try go_wp2_with (first | ((with_reducible refine gate_dst (N := 1) rfl ?_); refine boxE (N := 1) (cs := #[.int .i64 a0_0, .int .i64 a0_1, .slice A0_2 l0_2.length c0_2]) (t := 38) ?_; intro gb101 hg w3 hbox hb; have n0_ := Aside0.mk (below_step (bel HB) hb); have n1_ := Aside0.mk (hbox); have n2_ := Aside0.mk (gsz hg (bel HB)); have n3_ := Aside0.mk (gsz hg (bel HB)); clear HB; have HB := n0_; have BK101 := n1_; have GW101 := n2_; have GE101 := n3_; clear n0_ n1_ n2_ n3_; clear hb hbox hg) | ((with_reducible refine gate_dst (N := 2) rfl ?_); refine boxE (N := 2) (cs := #[.int .i64 0, .int .i64 0, .slice none 0 0]) (t := 38) ?_; intro gb102 hg w4 hbox hb; have n0_ := Aside0.mk (blk_below (g := gb101) (o := .cells #[.int .i64 a0_0, .int .i64 a0_1, .slice A0_2 l0_2.length c0_2] 38 (0, 0)) blc hb); have n1_ := Aside0.mk (below_step (bel HB) hb); have n2_ := Aside0.mk (hbox); have n3_ := Aside0.mk (gsz hg (bel HB)); have n4_ := Aside0.mk (gsz hg (bel HB)); have n5_ := Aside0.mk ((by rw [hg]; exact Nat.ne_of_lt (blk_lt (g := gb101) (o := .cells #[.int .i64 a0_0, .int .i64 a0_1, .slice A0_2 l0_2.length c0_2] 38 (0, 0)) blc) : gb101 ≠ gb102)); have n6_ := Aside0.mk ((by rw [hg]; exact Nat.ne_of_gt (blk_lt (g := gb101) (o := .cells #[.int .i64 a0_0, .int .i64 a0_1, .slice A0_2 l0_2.length c0_2] 38 (0, 0)) blc) : gb102 ≠ gb101)); clear BK101; clear HB; have BK101 := n0_; have HB := n1_; have BK102 := n2_; have GW102 := n3_; have GE102 := n4_; have NB101_102 := n5_; have NB102_101 := n6_; clear n0_ n1_ n2_ n3_ n4_ n5_ n6_; clear hb hbox hg))
  have n0_ := Aside0.mk (blk_drew BK101.out);have n1_ := Aside0.mk (blk_drew BK102.out);have n2_ := Aside0.mk (below_drew1 HB.out);clear BK101;clear BK102;clear HB;have BK101 := n0_;have BK102 := n1_;have HB := n2_;clear n0_ n1_ n2_
  refine start_ (n := 10) (S := fun w' => w'.cell? ⟨gb101, 0, none⟩ = some (.int .i64 a0_0) ∧ w'.cell? ⟨gb101, 1, none⟩ = some (.int .i64 a0_1) ∧ w'.cell? ⟨gb101, 2, none⟩ = some (.slice A0_2 l0_2.length c0_2)) (ds := []) #[false, false, false, false, false, false, false, false, false, false] (by kernel_rfl) rfl rfl ⟨(blk_cell BK101.out 0).trans rfl, (blk_cell BK101.out 1).trans rfl, (blk_cell BK101.out 2).trans rfl⟩ (fun hHeld => ?_); refine with_tabW spec_tyCopy.tab1 spec_tyCopy.bits1 (fun HT_ HW_ => ?_)
  generalize w4.drew = w5 at BK101 BK102 HB hHeld ⊢
  refine pure_ (i := 0) (N := some 3) (v := ?_) (a' := ?_) #[true, false, false, false, false, false, false, false, false, false] rfl rfl (any_of HT_.out (by kernel_rfl)) (fun _ _ _ h => h) (Or.inl ⟨by rfl, ?_⟩) ?_ ?_
  rotate_left
  ·intro w'
   go_simp
   with_reducible rfl
  rotate_left
  ·simp only [Act.put, List.setIfInBounds_toArray, List.set_cons_zero, List.set_cons_succ, i64_w, i32_w]
   rfl
  refine pure_ (i := 2) (N := some 5) (v := ?_) (a' := ?_) #[true, false, true, false, false, false, false, false, false, false] rfl rfl (any_of HT_.out (by kernel_rfl)) (fun _ _ _ h => h) (Or.inl ⟨by rfl, ?_⟩) ?_ ?_
  rotate_left
  ·intro w'
   go_simp
   with_reducible rfl
  rotate_left
  ·simp only [Act.put, List.setIfInBounds_toArray, List.set_cons_zero, List.set_cons_succ, i64_w, i32_w]
   rfl
  refine pure_ (i := 5) (N := some 8) (v := ?_) (a' := ?_) #[true, false, true, false, false, true, false, false, false, false] rfl rfl (any_of HT_.out (by kernel_rfl)) (fun _ _ _ h => h) (Or.inl ⟨by rfl, ?_⟩) ?_ ?_
  rotate_left
  ·intro w'
   go_simp
   with_reducible rfl
  rotate_left
  ·simp only [Act.put, List.setIfInBounds_toArray, List.set_cons_zero, List.set_cons_succ, i64_w, i32_w]
   rfl
  refine take_ (i := 1) (N := some 4) (v := ?_) (a' := ?_) #[true, true, true, false, false, true, false, false, false, false] rfl rfl (take_ofW HT_.out HW_.out (by kernel_rfl)) (fun _ _ _ h => h) (Or.inl ⟨by rfl, ?_⟩) hHeld ?_ ?_
  rotate_left
  ·rintro w' ⟨s0, s1, s2⟩
   go_simp
   with_reducible rfl
  rotate_left
  ·simp only [Act.put, List.setIfInBounds_toArray, List.set_cons_zero, List.set_cons_succ, i64_w, i32_w]
   rfl
  refine take_ (i := 3) (N := some 6) (v := ?_) (a' := ?_) #[true, true, true, true, false, true, false, false, false, false] rfl rfl (take_ofW HT_.out HW_.out (by kernel_rfl)) (fun _ _ _ h => h) (Or.inl ⟨by rfl, ?_⟩) hHeld ?_ ?_
  rotate_left
  ·rintro w' ⟨s0, s1, s2⟩
   go_simp
   with_reducible rfl
  rotate_left
  ·simp only [Act.put, List.setIfInBounds_toArray, List.set_cons_zero, List.set_cons_succ, i64_w, i32_w]
   rfl
  refine take_ (i := 6) (N := some 9) (v := ?_) (a' := ?_) #[true, true, true, true, false, true, true, false, false, false] rfl rfl (take_ofW HT_.out HW_.out (by kernel_rfl)) (fun _ _ _ h => h) (Or.inl ⟨by rfl, ?_⟩) hHeld ?_ ?_
  rotate_left
  ·rintro w' ⟨s0, s1, s2⟩
   go_simp
   with_reducible rfl
  rotate_left
  ·simp only [Act.put, List.setIfInBounds_toArray, List.set_cons_zero, List.set_cons_succ, i64_w, i32_w]
   rfl
  refine one_ (i := 4) (N := some 7) #[true, true, true, true, true, true, true, false, false, false] rfl rfl (one_of HT_.out (by kernel_rfl)) (by decide) (fun K hK => ?_)
  refine Kd.R_lit_step (Kd.int .u8) _ 5 ?hg (N := 7) ?hd (xs := ([] : List Int)) (inner := []) (ok := fun _ => True) (okp := fun _ => True) ?hr ?hp (fun _ hk => hk) trivial (Below.refl _ _) (Nat.le_refl _) (by simp) ?_; (case hd => rfl); (case hg => rfl); (case hr => first | (go_simp; done) | (go_simp; rfl)); (case hp => exact (Reps.none _ _))
  intro v104 w6 ho7 hb hg_ hnew_;clear hg_ hnew_
  (first | rw [← Ny103.out] at ho7 | (simp only [Int.reduceToNat] at ho7; rw [← Ny103.out] at ho7))
  have n0_ := Aside0.mk (Kd.R_lower ho7 (below_size (bel HB)));have n1_ := Aside0.mk (blk_below (g := gb101) (o := .cells #[.int .i64 a0_0, .int .i64 a0_1, .slice A0_2 l0_2.length c0_2] 38 (0, 0)) blc hb);have n2_ := Aside0.mk (blk_below (g := gb102) (o := .cells #[.int .i64 0, .int .i64 0, .slice none 0 0] 38 (0, 0)) blc hb);have n3_ := Aside0.mk (below_step (bel HB) hb);clear BK101;clear BK102;clear HB;have HO105 := n0_;have BK101 := n1_;have BK102 := n2_;have HB := n3_;clear n0_ n1_ n2_ n3_;clear hb ho7
  refine hK.out _ _ ⟨(blk_cell BK101.out 0).trans rfl, (blk_cell BK101.out 1).trans rfl, (blk_cell BK101.out 2).trans rfl⟩ (fun hHeld => ?_)
  clear hK K
  refine norm_ (a' := ?_) ?_ ?_
  rotate_left
  ·show Act.put _ (some 7) _ = _
   simp only [Act.put, List.setIfInBounds_toArray, List.set_cons_zero, List.set_cons_succ, i64_w, i32_w]
   rfl
  refine one_ (i := 7) (N := some 10) #[true, true, true, true, true, true, true, true, false, false] rfl rfl (one_of HT_.out (by kernel_rfl)) (by decide) (fun K hK => ?_)
  refine Kd.R_append_rows_step (Kd.int .u8) (w0 := w) w.heap.size (by rfl) (.tmp 7) (.tmp 9) 36 5 (.int .u8 0) 1 rfl Tryz.underlying36 info5 rfl (by decide) (by omega) v104 y103 l0_2 _ _ _ (fun _ => True) (fun _ => False) rfl rfl ?aO ?aR (fun _ _ h => h) (fun _ h => h.elim) ?aF ?aB ?aS ?aL ?_
  (case aR => repeat (first | exact (Kd.C_below HR0_2.out HB.out) | (with_reducible refine Kd.C_alloc ?_ _) | (with_reducible refine Kd.C_drewN ?_ _) | (with_reducible refine Kd.C_drew ?_)))
  (case aB => exact (bel HB))
  (case aF => exact (fun _ _ => trivial))
  (case aO => exact (rch HO105))
  (case aS => exact (below_size (bel HB)))
  (case aL => have := LMc2.out; omega)
  intro v107 w8 ho hb hg hat
  rw [← Ny106.out] at ho
  have n0_ := Aside0.mk (blk_grown (g := gb101) (o := .cells #[.int .i64 a0_0, .int .i64 a0_1, .slice A0_2 l0_2.length c0_2] 38 (0, 0)) blc hg (Kd.R_ne HO105.out BK101.out (by decide)));have n1_ := Aside0.mk (blk_grown (g := gb102) (o := .cells #[.int .i64 0, .int .i64 0, .slice none 0 0] 38 (0, 0)) blc hg (Kd.R_ne HO105.out BK102.out (by decide)));have n2_ := Aside0.mk (hb);have n3_ := Aside0.mk (ho);clear BK101;clear BK102;clear HB;clear HO105;have BK101 := n0_;have BK102 := n1_;have HB := n2_;have HO108 := n3_;clear n0_ n1_ n2_ n3_;clear ho hb hg hat;obtain ⟨Ao9, co9, eo9⟩ := Kd.R_slice HO108.out
  (first | subst eo9 | (injection eo9 with f1_ f2_ f3_; have f4_ := f1_.symm; have f5_ := f3_.symm; clear f1_ f2_ f3_; subst f4_; subst f5_))
  refine hK.out _ _ ⟨(blk_cell BK101.out 0).trans rfl, (blk_cell BK101.out 1).trans rfl, (blk_cell BK101.out 2).trans rfl⟩ (fun hHeld => ?_)
  clear hK K
  refine norm_ (a' := ?_) ?_ ?_
  rotate_left
  ·show Act.put _ (some 10) _ = _
   simp only [Act.put, List.setIfInBounds_toArray, List.set_cons_zero, List.set_cons_succ, i64_w, i32_w]
   rfl
  refine pure_ (i := 8) (N := some 11) (v := ?_) (a' := ?_) #[true, true, true, true, true, true, true, true, true, false] rfl rfl (any_of HT_.out (by kernel_rfl)) (fun _ _ _ h => h) (Or.inl ⟨by rfl, ?_⟩) ?_ ?_
  rotate_left
  ·intro w'
   go_simp
   with_reducible rfl
  rotate_left
  ·simp only [Act.put, List.setIfInBounds_toArray, List.set_cons_zero, List.set_cons_succ, i64_w, i32_w]
   rfl
  refine one_ (i := 9) (N := none) #[true, true, true, true, true, true, true, true, true, true] rfl rfl (one_of HT_.out (by kernel_rfl)) (by decide) (fun K hK => ?_)
  have hs10 : w8.cell? ⟨gb102, 0, none⟩ = some (.int .i64 0) := (blk_cell BK102.out 0).trans rfl;have hfs10 := blk_frozen BK102.out 0;have hns10_0 := NB101_102.out;have hms10_0 := NB102_101.out;have hs11 : w8.cell? ⟨gb102, 1, none⟩ = some (.int .i64 0) := (blk_cell BK102.out 1).trans rfl;have hfs11 := blk_frozen BK102.out 1;have hns11_0 := NB101_102.out;have hms11_0 := NB102_101.out;have hs12 : w8.cell? ⟨gb102, 2, none⟩ = some (.slice none 0 0) := (blk_cell BK102.out 2).trans rfl;have hfs12 := blk_frozen BK102.out 2;have hns12_0 := NB101_102.out;have hms12_0 := NB102_101.out
  refine skip_ (w1 := ?_) (by rfl) rfl ?_ ?_
  rotate_left
  ·go_simp
   rfl
  refine hK.out _ _ ⟨((cell_far (p := ⟨gb102, _, none⟩) NB101_102.out _).trans (((cell_far (p := ⟨gb102, _, none⟩) NB101_102.out _).trans (((cell_far (p := ⟨gb102, _, none⟩) NB101_102.out _).trans (hHeld.1)))))), ((cell_far (p := ⟨gb102, _, none⟩) NB101_102.out _).trans (((cell_far (p := ⟨gb102, _, none⟩) NB101_102.out _).trans (((cell_far (p := ⟨gb102, _, none⟩) NB101_102.out _).trans (hHeld.2.1)))))), ((cell_far (p := ⟨gb102, _, none⟩) NB101_102.out _).trans (((cell_far (p := ⟨gb102, _, none⟩) NB101_102.out _).trans (((cell_far (p := ⟨gb102, _, none⟩) NB101_102.out _).trans (hHeld.2.2))))))⟩ (fun hHeld => ?_)
  clear hK K
  refine done_ (done_of HT_.out (by kernel_rfl)) ?_
  try go_wp2
  refine bodyPost_ret (results_cell_row rfl _ _ gb102 38 #[.int .i64 a0_0, .int .i64 a0_1, .slice Ao9 y106.length co9] (0, 0) _ rfl (by (with_reducible repeat (first | refine blk_drewN ?_ _ | refine blk_drew ?_ | refine blk_alloc ?_ _)); refine blk_put (cs := #[.int .i64 a0_0, .int .i64 a0_1, .slice none 0 0]) ?_ 2 _ rfl; (with_reducible repeat (first | refine blk_drewN ?_ _ | refine blk_drew ?_ | refine blk_alloc ?_ _)); refine blk_put (cs := #[.int .i64 a0_0, .int .i64 0, .slice none 0 0]) ?_ 1 _ rfl; (with_reducible repeat (first | refine blk_drewN ?_ _ | refine blk_drew ?_ | refine blk_alloc ?_ _)); refine blk_put (cs := #[.int .i64 0, .int .i64 0, .slice none 0 0]) ?_ 0 _ rfl; exact blc) Tryz.underlying38 rfl (by kernel_rfl)) rfl ?_
  exact ⟨_, by first | rfl | (simp [errW_none, errW_some] <;> rfl) | (simp [*, errW_none, errW_some] <;> rfl), by (with_reducible repeat (first | apply Kd.R_alloc | apply Kd.R_drewN | apply Kd.R_drew)); exact Kd.R_mono (Kd.R_far (p := ⟨gb102, 2, none⟩) (Kd.R_far (p := ⟨gb102, 1, none⟩) (Kd.R_far (p := ⟨gb102, 0, none⟩) (Kd.R_types HO108.out BK102.out (by decide)) (fun _ hk => hk.2) (.int .i64 a0_0)) (fun _ hk => hk.2) (.int .i64 a0_1)) (fun _ hk => hk.2) (.slice Ao9 y106.length co9)) (fun _ hk => trivial), bel HB⟩
 ·rw [if_neg c2] at H
  exact absurd H (by simp)
end Go.Proofs.YtchjgphnglklcaaGreatDoor.Q
end
