/- Texts of this claim, joined. -/
import Derived.Test.YtepmpilopmcjpaaGreatDoorJPathOfBall04
import Derived.Test.YtepmpilopmcjpaaGreatDoorJPathOfBall01
import Derived.Test.YtepmpilopmcjpaaGreatDoorJPathOfBall03
import Derived.Test.YtepmpilopmcjpaaGreatDoorJPathOfBall05
import Derived.Test.YtepmpilopmcjpaaGreatDoorJPathOfBall06
set_option linter.unusedVariables false
set_option linter.unusedSimpArgs false
set_option linter.unusedSectionVars false
section
namespace Go.Proofs.YtepmpilopmcjpaaGreatDoor.Q
set_option linter.unusedSectionVars false
open Go.RowKit Go.Proofs.YtepmpilopmcjpaaGreatDoorW.PrintWords Go.Proofs.YtepmpilopmcjpaaGreatDoorW.PrintLast Go.Proofs.YtepmpilopmcjpaaGreatDoorW.PrintMore
open Classical
def wayL (w h : Nat) : List Nat → List Int → Int → List Int
 | [], _, _ => []
 | d :: l, cs, x => slideF w h cs d x :: wayL w h l (tiltC w h cs d) (slideF w h cs d x)
theorem wayL_len (w h : Nat) : ∀ (l : List Nat) (cs : List Int) (x : Int), (wayL w h l cs x).length = l.length
 | [], _, _ => rfl
 | d :: l, cs, x => by
  show (_ :: wayL w h l _ _).length = _
  rw [List.length_cons, List.length_cons, wayL_len w h l]
section
variable {w h : Nat} (hw : w ≤ 7) (hh : h ≤ 7) (hs : w * h ≤ 36) (hw1 : 0 < w) (hh1 : 0 < h)
include hw hh hs hw1 hh1
theorem pathI_ev (c : Int) (hc : isB c = true) : ∀ (l : List UInt8) (cs : List Int) (x : Int) (out : List Int), (∀ b ∈ l, isD b = true) → cs.length = w * h → only cs c x → Ev (fun k => pathI k (l.map fun b => (b.toNat : Int)) w h cs x out) (out ++ wayL w h (l.map dirN) cs x)
 | [], cs, x, out, _, _, _ => by
  rw [show wayL w h (([] : List UInt8).map dirN) cs x = [] from rfl, List.append_nil]
  exact Ev.const rfl
 | b :: l, cs, x, out, hd, hn, ho => by
  have hb := hd b List.mem_cons_self
  have hd4 := dirN_lt b
  have hdc : dirC (dirN b) = (b.toNat : Int) := (dirN_C hb).2
  have hx : isB (rd cs x) = true := by rw [ho.2.2.1]; exact hc
  have h1 := slide_ev hw hh hs hd4 hw1 hh1 hn
  have h2 := tilted_ev hw hh hs hd4 hw1 hh1 hn
  rw [hdc] at h1 h2
  have ih := pathI_ev c hc l (tiltC w h cs (dirN b)) (slideF w h cs (dirN b) x) (out ++ [slideF w h cs (dirN b) x]) (fun e he => hd e (List.mem_cons_of_mem _ he)) ((tiltC_len hw hh hs hd4).trans hn) (only_tilt hw hh hs hd4 hn hc ho)
  rw [List.append_assoc, List.singleton_append] at ih
  refine Ev.congr (Ev.bind (f := fun k (m : List (Int × Int)) => if 0 ≤ x ∧ x ≤ 1000000 then (impl_tray_tilted.f k w h cs (b.toNat : Int)).bind fun g => pathI k (l.map fun b => (b.toNat : Int)) g.1 g.2.1 g.2.2 ((asF m x).getD 0) (out ++ [(asF m x).getD 0]) else none) h1 (Ev.congr (Ev.bind (f := fun k (g : Int × Int × List Int) => pathI k (l.map fun b => (b.toNat : Int)) g.1 g.2.1 g.2.2 (slideF w h cs (dirN b) x) (out ++ [slideF w h cs (dirN b) x])) h2 ih) fun k => if_pos ⟨ho.1, by have := ho.2.1; omega⟩)) fun k => ?_
  rw [List.map_cons, pathI]
theorem pbS_l0 (s u : ByteArray) (hk : nameOK s = true) (hb : u.size ≤ 40 ∧ ∀ (t : Nat) (ht : t < u.data.toList.length), isD u.data.toList[t] = true) : ∀ (m t : Nat) (cs : List Int) (x : Int) (out : List Int), t + m = u.size → cs.length = w * h → only cs (bt s 0) x → out.length ≤ t + 1 → Ev (fun k => spec_PathOfBall.l0 k s u out t w h cs) (out ++ wayL w h ((u.data.toList.drop t).map dirN) cs x, true)
 | 0, t, cs, x, out, ht, hn, _, _ => by
  have hl := data_length u
  rw [List.drop_eq_nil_of_le (by omega), show wayL w h (([] : List UInt8).map dirN) cs x = [] from rfl, List.append_nil]
  refine Ev.step (Ev.const (o := some (out, true)) rfl) fun k => ?_
  rw [spec_PathOfBall.l0, if_neg (by omega)]
 | m + 1, t, cs, x, out, ht, hn, ho, hol => by
  have hl := data_length u
  have htl : t < u.data.toList.length := by omega
  have hwt : wrap64 ((t : Int) + 1) = ((t + 1 : Nat) : Int) := by have := hb.1; rw [w64 (by omega) (by omega)]; omega
  have hd := hb.2 t htl
  have hd4 := dirN_lt u.data.toList[t]
  have hl2 : (tiltC w h cs (dirN u.data.toList[t])).length = w * h := (tiltC_len hw hh hs hd4).trans hn
  have ho2 := only_tilt hw hh hs hd4 hn (name_ball hk) ho
  have c6 : out.length < 17592186044416 := Nat.lt_of_le_of_lt (Nat.le_trans hol (show t + 1 ≤ 41 by have := hb.1; omega)) (by decide)
  have ih := pbS_l0 s u hk hb m (t + 1) (tiltC w h cs (dirN u.data.toList[t])) _ (out ++ [slideF w h cs (dirN u.data.toList[t]) x]) (by omega) hl2 ho2 (by rw [List.length_append, List.length_singleton]; omega)
  have h1 := tiDir_ev (u.extract ((t : Nat) : Int).toNat (((t + 1 : Nat) : Int)).toNat)
  rw [dirI_one (cut_one u t (by omega)), if_pos hd] at h1
  rw [List.drop_eq_getElem_cons htl, List.map_cons]
  rw [List.append_assoc, List.singleton_append] at ih
  have hk1 := (of_decide_eq_true hk).1
  refine Ev.step (Ev.bind (f := fun k t114 => ((spec_tiTilt.f k w h cs t114).bind fun bt115 => ((spec_tiPlace.f k bt115.1 bt115.2.1 bt115.2.2 (bt s 0)).bind fun t120 => (spec_PathOfBall.l0 k s u (out ++ [t120]) ((t + 1 : Nat) : Int) bt115.1 bt115.2.1 bt115.2.2)))) h1 (Ev.bind (f := fun k (bt115 : Int × Int × List Int) => ((spec_tiPlace.f k bt115.1 bt115.2.1 bt115.2.2 (bt s 0)).bind fun t120 => (spec_PathOfBall.l0 k s u (out ++ [t120]) ((t + 1 : Nat) : Int) bt115.1 bt115.2.1 bt115.2.2))) (tiTilt_ev hw hh hs hd4 hw1 hh1 hn) (Ev.bind (f := fun k t120 => (spec_PathOfBall.l0 k s u (out ++ [t120]) ((t + 1 : Nat) : Int) w h (tiltC w h cs (dirN u.data.toList[t])))) (tiPlace_ev (tiltC w h cs (dirN u.data.toList[t])) (bt s 0) w h (by omega)) (by rw [idx_only ho2]; exact ih)))) fun k => ?_
  rw [spec_PathOfBall.l0, if_pos (by omega), if_pos (by omega), hwt, if_pos (by omega), if_pos (by omega)]
  congr 1
  funext t114
  congr 1
  funext bt115
  rw [if_pos (by omega)]
  congr 1
  funext t120
  rw [if_pos c6]
end
def PathOfBallR (t s u : ByteArray) : List Int × Bool := match trayOf t with
 | none => ([], false)
 | some (w, h, cs) => if (nameOK s = true ∧ 0 ≤ idxL cs (bt s 0) 0) ∧ wordB u = true then (idxL cs (bt s 0) 0 :: wayL w.toNat h.toNat (u.data.toList.map dirN) cs (idxL cs (bt s 0) 0), true) else ([], false)
theorem PathOfBallR_len (t s u : ByteArray) : (PathOfBallR t s u).1.length ≤ 1000000 := by
 unfold PathOfBallR
 rcases trayOf t with _ | ⟨w, h, cs⟩
 ·exact Nat.zero_le _
 ·show (if (nameOK s = true ∧ 0 ≤ idxL cs (bt s 0) 0) ∧ wordB u = true then (idxL cs (bt s 0) 0 :: wayL w.toNat h.toNat (u.data.toList.map dirN) cs (idxL cs (bt s 0) 0), true) else ([], false)).1.length ≤ 1000000
  split
  ·rename_i hc
   have h1 := (wordB_parts hc.2).1
   have h2 := data_length u
   show (_ :: wayL _ _ _ _ _).length ≤ _
   rw [List.length_cons, wayL_len, List.length_map]
   omega
  ·exact Nat.zero_le _
theorem specPathOfBall_ev (t s u : ByteArray) : Ev (fun k => spec_PathOfBall.f k t s u) (PathOfBallR t s u) := by
 have hno : ∀ w h cs, Ev (fun k => spec_PathOfBall.j0 k s u true w h cs) ([], false) := fun w h cs => by
  refine Ev.step (Ev.const (o := some (([] : List Int), false)) rfl) fun k => ?_
  rw [spec_PathOfBall.j0, if_pos rfl]
 refine Ev.bind (f := fun k (bt101 : Int × Int × List Int × Bool) => (if bt101.2.2.2 = true then ((spec_tiWord.f k u).bind fun t108 => (if t108 = true then (if (s.size : Int) = 1 then (if 0 < (s.size : Int) then (if (bt s 0) < 97 then (spec_PathOfBall.j0 k s u true bt101.1 bt101.2.1 bt101.2.2.1) else (if (bt s 0) > 102 then (spec_PathOfBall.j0 k s u true bt101.1 bt101.2.1 bt101.2.2.1) else ((spec_tiPlace.f k bt101.1 bt101.2.1 bt101.2.2.1 (bt s 0)).bind fun t109 => (spec_PathOfBall.j0 k s u (decide (t109 < 0)) bt101.1 bt101.2.1 bt101.2.2.1)))) else (none)) else (spec_PathOfBall.j0 k s u true bt101.1 bt101.2.1 bt101.2.2.1)) else (spec_PathOfBall.j0 k s u true bt101.1 bt101.2.1 bt101.2.2.1))) else (spec_PathOfBall.j0 k s u true bt101.1 bt101.2.1 bt101.2.2.1))) (tyRead_ev t) ?_
 unfold PathOfBallR
 rcases ht : trayOf t with _ | ⟨w, h, cs⟩
 ·exact Ev.congr (hno _ _ _) fun k => if_neg Bool.false_ne_true
 ·have hname := tray_named ht
  obtain ⟨w, h, cs, e, hw1, hw, hh1, hh, hs, hn⟩ := tray_parts ht
  injection e with e1 e2
  injection e2 with e2 e3
  subst e1 e2 e3
  have hz : 0 < w * h := Nat.mul_pos hw1 hh1
  show Ev _ (if (nameOK s = true ∧ 0 ≤ idxL cs (bt s 0) 0) ∧ wordB u = true then _ else _)
  simp only [Int.toNat_natCast]
  refine Ev.congr (Ev.bind (f := fun k (t108 : Bool) => (if t108 = true then (if (s.size : Int) = 1 then (if 0 < (s.size : Int) then (if (bt s 0) < 97 then (spec_PathOfBall.j0 k s u true w h cs) else (if (bt s 0) > 102 then (spec_PathOfBall.j0 k s u true w h cs) else ((spec_tiPlace.f k w h cs (bt s 0)).bind fun t109 => (spec_PathOfBall.j0 k s u (decide (t109 < 0)) w h cs)))) else (none)) else (spec_PathOfBall.j0 k s u true w h cs)) else (spec_PathOfBall.j0 k s u true w h cs))) (tiWord_ev u) ?_) fun k => if_pos rfl
  by_cases hu : wordB u = true
  ·by_cases hk : nameOK s = true
   ·obtain ⟨k1, k2, k3⟩ := of_decide_eq_true hk
    have hin : Ev (fun k => (spec_tiPlace.f k w h cs (bt s 0)).bind fun t109 => (spec_PathOfBall.j0 k s u (decide (t109 < 0)) w h cs)) (if (nameOK s = true ∧ 0 ≤ idxL cs (bt s 0) 0) ∧ wordB u = true then (idxL cs (bt s 0) 0 :: wayL w h (u.data.toList.map dirN) cs (idxL cs (bt s 0) 0), true) else ([], false)) := by
     refine Ev.bind (f := fun k t109 => (spec_PathOfBall.j0 k s u (decide (t109 < 0)) w h cs)) (tiPlace_ev cs (bt s 0) w h (by omega)) ?_
     by_cases h0 : 0 ≤ idxL cs (bt s 0) 0
     ·rw [if_pos ⟨⟨hk, h0⟩, hu⟩, decide_eq_false (show ¬ idxL cs (bt s 0) 0 < 0 by omega)]
      have ho := name_only hname hk h0
      have h1 := pbS_l0 hw hh hs hw1 hh1 s u hk (wordB_parts hu) u.size 0 cs _ [idxL cs (bt s 0) 0] (by omega) hn ho (by simp)
      rw [List.drop_zero] at h1
      refine Ev.step (Ev.bind (f := fun k t110 => (spec_PathOfBall.l0 k s u (([t110] : List Int)) 0 w h cs)) (tiPlace_ev cs (bt s 0) w h (by omega)) h1) fun k => ?_
      rw [spec_PathOfBall.j0, if_neg (by decide), if_pos (by omega)]
     ·rw [if_neg fun hh => h0 hh.1.2, decide_eq_true (show idxL cs (bt s 0) 0 < 0 by omega)]
      exact hno _ _ _
    refine Ev.congr hin fun k => ?_
    rw [if_pos hu, if_pos k1, if_pos (by omega), if_neg (by omega), if_neg (by omega)]
   ·rw [if_neg fun hh => hk hh.1.1]
    refine Ev.congr (hno w h cs) fun k => ?_
    rw [if_pos hu]
    by_cases k1 : (s.size : Int) = 1
    ·rw [if_pos k1, if_pos (by omega)]
     by_cases k2 : bt s 0 < 97
     ·rw [if_pos k2]
     ·rw [if_neg k2, if_pos]
      exact Classical.byContradiction fun k3 => hk (decide_eq_true ⟨k1, by omega, by omega⟩)
    ·rw [if_neg k1]
  ·rw [if_neg fun hh => hu hh.2]
   exact Ev.congr (hno w h cs) fun k => if_neg hu
theorem implPathOfBall_ev (t s u : ByteArray) (ht0 : t.size ≤ 1048576) (_hs0 : s.size ≤ 1048576) (hu0 : u.size ≤ 1048576) : Ev (fun k => impl_PathOfBall.f k t s u) (PathOfBallR t s u) := by
 refine Ev.bind (f := fun k (c : Int × Bool) => if c.2 = true then (impl_IsWord.f u).bind fun b => if b = true then (impl_read.f t).bind fun g => (convB.f u).bind fun l => if l.length ≤ 1000 then (pathI k l g.1 g.2.1 g.2.2 c.1 [c.1]).bind fun out => some (out, true) else none else some ([], false) else some ([], false)) (cellOf_ev t s ht0) ?_
 unfold PathOfBallR cellOfR
 rcases ht : trayOf t with _ | ⟨w, h, cs⟩
 ·exact Ev.congr (Ev.const rfl) fun k => if_neg Bool.false_ne_true
 ·have hread := tray_read ht
  have hname := tray_named ht
  obtain ⟨w, h, cs, e, hw1, hw, hh1, hh, hs, hn⟩ := tray_parts ht
  injection e with e1 e2
  injection e2 with e2 e3
  subst e1 e2 e3
  have hz : 0 < w * h := Nat.mul_pos hw1 hh1
  show Ev (fun k => if (if nameOK s = true then (idxL cs (bt s 0) 0, decide (idxL cs (bt s 0) 0 ≥ 0)) else (0, false)).2 = true then _ else _) (if (nameOK s = true ∧ 0 ≤ idxL cs (bt s 0) 0) ∧ wordB u = true then _ else _)
  simp only [Int.toNat_natCast]
  by_cases hk : nameOK s = true
  ·by_cases h0 : 0 ≤ idxL cs (bt s 0) 0
   ·by_cases hu : wordB u = true
    ·rw [if_pos (show (nameOK s = true ∧ 0 ≤ idxL cs (bt s 0) 0) ∧ wordB u = true from ⟨⟨hk, h0⟩, hu⟩)]
     have ho := name_only hname hk h0
     have hp := wordB_parts hu
     have hdl := data_length u
     have h1 := pathI_ev hw hh hs hw1 hh1 (bt s 0) (name_ball hk) u.data.toList cs _ [idxL cs (bt s 0) 0] (fun b hb => by
      obtain ⟨i, hi, rfl⟩ := List.mem_iff_getElem.1 hb
      exact hp.2 i hi) hn ho
     refine Ev.congr (Ev.bind (f := fun _ (out : List Int) => some (out, true)) h1 (Ev.const rfl)) fun k => ?_
     simp only [hk, if_true]
     rw [if_pos (by simpa using h0), isWord_eq, hu, Option.bind_some, if_pos rfl, hread, Option.bind_some]
     unfold convB.f
     rw [if_pos (by omega), Option.bind_some, if_pos (by rw [bytesOf_length]; omega)]
     rfl
    ·rw [if_neg (show ¬ ((nameOK s = true ∧ 0 ≤ idxL cs (bt s 0) 0) ∧ wordB u = true) from fun hh => hu hh.2)]
     refine Ev.congr (Ev.const (o := some (([] : List Int), false)) rfl) fun k => ?_
     simp only [hk, if_true]
     rw [if_pos (by simpa using h0), isWord_eq, Option.bind_some, if_neg hu]
   ·rw [if_neg (show ¬ ((nameOK s = true ∧ 0 ≤ idxL cs (bt s 0) 0) ∧ wordB u = true) from fun hh => h0 hh.1.2)]
    refine Ev.congr (Ev.const (o := some (([] : List Int), false)) rfl) fun k => ?_
    simp only [hk, if_true]
    exact if_neg (by simpa using h0)
  ·rw [if_neg (show ¬ ((nameOK s = true ∧ 0 ≤ idxL cs (bt s 0) 0) ∧ wordB u = true) from fun hh => hk hh.1.1)]
   refine Ev.congr (Ev.const (o := some (([] : List Int), false)) rfl) fun k => ?_
   rw [if_neg hk]
   exact if_neg Bool.false_ne_true
theorem lawPathOfBall_ev (t : ByteArray) (s : ByteArray) (u : ByteArray) : Ev (fun k => laws_FnExactPathOfBall.f k t s u) true := by
 by_cases ht : t.size ≤ 1048576
 case neg =>
  refine Ev.congr (Ev.const (o := some true) rfl) fun k => ?_
  unfold laws_FnExactPathOfBall.f
  exact if_pos (by omega)
 by_cases hs : s.size ≤ 1048576
 case neg =>
  refine Ev.congr (Ev.const (o := some true) rfl) fun k => ?_
  unfold laws_FnExactPathOfBall.f
  rw [if_neg (by omega)]
  exact if_pos (by omega)
 by_cases hu : u.size ≤ 1048576
 case neg =>
  refine Ev.congr (Ev.const (o := some true) rfl) fun k => ?_
  unfold laws_FnExactPathOfBall.f
  rw [if_neg (by omega)]
  rw [if_neg (by omega)]
  exact if_pos (by omega)
 have hsp := specPathOfBall_ev t s u
 have him := implPathOfBall_ev t s u ht hs hu
 have hl := PathOfBallR_len t s u
 obtain ⟨l, hl1, hl2, hmk⟩ := mark_ev (PathOfBallR t s u).1 1 (by omega) (by omega) (by omega)
 have hhd := held_ev l 1 (by omega) (by omega) (by omega) (by rw [hl1]; exact hl2)
 have heq := eqInts_ev (PathOfBallR t s u).1 (by omega)
 have e0 : (1 : Int) + l.length = 1 + (PathOfBallR t s u).1.length := by rw [hl1]
 rw [e0] at hhd
 have c1 : ¬ (1 : Int) + (PathOfBallR t s u).1.length < 0 := by omega
 have hj1 : Ev (fun k => laws_FnExactPathOfBall.j1 k l (1 + (PathOfBallR t s u).1.length) false) true := by
  refine Ev.step (Ev.bind (f := fun _ t118 => (if t118 < 0 then (some false) else (if t118 = (1 : Int) + (PathOfBallR t s u).1.length then (some true) else (some false)))) hhd (Ev.const ?_)) fun k => ?_
  ·rw [if_neg c1, if_pos rfl]
  ·rw [laws_FnExactPathOfBall.j1, if_neg (by decide)]
 have hj0 : Ev (fun k => laws_FnExactPathOfBall.j0 k t s u (PathOfBallR t s u).1 (PathOfBallR t s u).2 (PathOfBallR t s u).1 false) true := by
  refine Ev.step (Ev.bind (f := fun k bt110 => ((laws_heldIntS.f k bt110.2 1).bind fun t112 => (if t112 < 0 then (some false) else (if t112 = bt110.1 then ((impl_PathOfBall.f k t s u).bind fun bt113 => ((laws_eqIntS.f k bt113.1 (PathOfBallR t s u).1).bind fun t117 => (if t117 = true then (laws_FnExactPathOfBall.j1 k bt110.2 bt110.1 (bt113.2 != (PathOfBallR t s u).2)) else (laws_FnExactPathOfBall.j1 k bt110.2 bt110.1 true)))) else (some false))))) hmk ?_) fun k => ?_
  ·refine Ev.bind (f := fun k t112 => (if t112 < 0 then (some false) else (if t112 = (1 : Int) + (PathOfBallR t s u).1.length then ((impl_PathOfBall.f k t s u).bind fun bt113 => ((laws_eqIntS.f k bt113.1 (PathOfBallR t s u).1).bind fun t117 => (if t117 = true then (laws_FnExactPathOfBall.j1 k l (1 + (PathOfBallR t s u).1.length) (bt113.2 != (PathOfBallR t s u).2)) else (laws_FnExactPathOfBall.j1 k l (1 + (PathOfBallR t s u).1.length) true)))) else (some false)))) hhd ?_
   refine Ev.congr (Ev.bind (f := fun k bt113 => ((laws_eqIntS.f k bt113.1 (PathOfBallR t s u).1).bind fun t117 => (if t117 = true then (laws_FnExactPathOfBall.j1 k l (1 + (PathOfBallR t s u).1.length) (bt113.2 != (PathOfBallR t s u).2)) else (laws_FnExactPathOfBall.j1 k l (1 + (PathOfBallR t s u).1.length) true)))) him ?_) fun k => ?_
   ·refine Ev.bind (f := fun k t117 => (if t117 = true then (laws_FnExactPathOfBall.j1 k l (1 + (PathOfBallR t s u).1.length) ((PathOfBallR t s u).2 != (PathOfBallR t s u).2)) else (laws_FnExactPathOfBall.j1 k l (1 + (PathOfBallR t s u).1.length) true))) heq ?_
    refine Ev.congr hj1 fun k => ?_
    rw [if_pos rfl, bne_self_eq_false]
   ·rw [if_neg c1, if_pos rfl]
  ·rw [laws_FnExactPathOfBall.j0, if_neg (by decide)]
 refine Ev.congr (Ev.bind (f := fun k (bt101 : List Int × Bool) => ((impl_PathOfBall.f k t s u).bind fun bt105 => ((laws_eqIntS.f k bt105.1 bt101.1).bind fun t109 => (if t109 = true then (laws_FnExactPathOfBall.j0 k t s u bt101.1 bt101.2 bt105.1 (bt105.2 != bt101.2)) else (laws_FnExactPathOfBall.j0 k t s u bt101.1 bt101.2 bt105.1 true))))) hsp ?_) fun k => by unfold laws_FnExactPathOfBall.f; rw [if_neg (by omega), if_neg (by omega), if_neg (by omega)]
 refine Ev.bind (f := fun k bt105 => ((laws_eqIntS.f k bt105.1 (PathOfBallR t s u).1).bind fun t109 => (if t109 = true then (laws_FnExactPathOfBall.j0 k t s u (PathOfBallR t s u).1 (PathOfBallR t s u).2 bt105.1 (bt105.2 != (PathOfBallR t s u).2)) else (laws_FnExactPathOfBall.j0 k t s u (PathOfBallR t s u).1 (PathOfBallR t s u).2 bt105.1 true)))) him ?_
 refine Ev.bind (f := fun k t109 => (if t109 = true then (laws_FnExactPathOfBall.j0 k t s u (PathOfBallR t s u).1 (PathOfBallR t s u).2 (PathOfBallR t s u).1 ((PathOfBallR t s u).2 != (PathOfBallR t s u).2)) else (laws_FnExactPathOfBall.j0 k t s u (PathOfBallR t s u).1 (PathOfBallR t s u).2 (PathOfBallR t s u).1 true))) heq ?_
 refine Ev.congr hj0 fun k => ?_
 rw [if_pos rfl, bne_self_eq_false]
end Go.Proofs.YtepmpilopmcjpaaGreatDoor.Q
end
