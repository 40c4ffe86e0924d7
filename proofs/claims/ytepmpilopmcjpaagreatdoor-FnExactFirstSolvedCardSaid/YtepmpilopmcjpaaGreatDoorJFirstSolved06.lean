/- Texts of this claim, joined. -/
import Derived.Test.YtepmpilopmcjpaaGreatDoorJFirstSolved04
import Derived.Test.YtepmpilopmcjpaaGreatDoorJFirstSolved05
import Derived.Test.YtepmpilopmcjpaaGreatDoorJFirstSolved01
set_option linter.unusedVariables false
set_option linter.unusedSimpArgs false
set_option linter.unusedSectionVars false
section
namespace Go.Proofs.YtepmpilopmcjpaaGreatDoor.Q
open Go.RowKit Go.Shelf Go.Proofs.YtepmpilopmcjpaaGreatDoorW.PrintWords Go.Proofs.YtepmpilopmcjpaaGreatDoorW.PrintLast Go.Proofs.YtepmpilopmcjpaaGreatDoorW.PrintMore
set_option linter.unusedSectionVars false
def puzB (t s : ByteArray) (g : Int) : Bool := match trayOf t with
 | none => false
 | some (_, _, cs) => nameOK s && (decide (0 ≤ idxL cs (bt s 0) 0) && (decide (0 ≤ g ∧ g < (cs.length : Int)) && (rd cs g != 35)))
theorem reName_eq (s : ByteArray) : spec_reName.f s = some (nameOK s) := by
 unfold spec_reName.f nameOK
 by_cases h1 : (s.size : Int) = 1
 ·rw [if_pos h1, if_pos (by omega)]
  by_cases h2 : bt s 0 ≥ 97
  ·rw [if_pos h2]
   congr 1
   exact decide_eq_decide.2 ⟨fun h => ⟨h1, h2, h⟩, fun h => h.2.2⟩
  ·rw [if_neg h2, decide_eq_false fun h => h2 h.2.1]
 ·rw [if_neg h1, decide_eq_false fun h => h1 h.1]
theorem l1In_dec (a lo hi : Int) : spec_l1In.f a lo hi = some (decide (lo ≤ a ∧ a ≤ hi)) := by
 unfold spec_l1In.f
 by_cases h : a ≥ lo
 ·rw [if_pos h]
  congr 1
  exact decide_eq_decide.2 (by omega)
 ·rw [if_neg h, decide_eq_false (by omega)]
theorem puGood_ev (t s : ByteArray) (g : Int) : Ev (fun k => spec_puGood.f k t s g) (puzB t s g) := by
 refine Ev.bind (f := fun k (bt102 : Int × Int × List Int × Bool) => (if bt102.2.2.2 = true then ((spec_reName.f s).bind fun t109 => (if t109 = true then (if 0 < (s.size : Int) then ((spec_tiPlace.f k bt102.1 bt102.2.1 bt102.2.2.1 (bt s 0)).bind fun t110 => (if t110 < 0 then (some false) else ((spec_l1In.f g 0 (wrap64 ((bt102.2.2.1.length : Int) - 1))).bind fun t111 => (if t111 = true then (if 0 ≤ g then (if g < (bt102.2.2.1.length : Int) then (some ((rd bt102.2.2.1 g) != 35)) else (none)) else (none)) else (some false))))) else (none)) else (some false))) else (some false))) (tyRead_ev t) ?_
 unfold puzB
 rcases ht : trayOf t with _ | ⟨w, h, cs⟩
 ·exact Ev.congr (Ev.const rfl) fun k => if_neg Bool.false_ne_true
 ·have hl : cs.length ≤ 36 := form_len ht
  show Ev (fun k => if true = true then _ else _) (nameOK s && (decide (0 ≤ idxL cs (bt s 0) 0) && (decide (0 ≤ g ∧ g < (cs.length : Int)) && (rd cs g != 35))))
  cases hs : nameOK s with
  | false =>
   refine Ev.congr (Ev.const (o := some false) rfl) fun k => ?_
   rw [if_pos rfl, reName_eq, hs, Option.bind_some, if_neg (by decide)]
  | true =>
   obtain ⟨h1, _⟩ := of_decide_eq_true hs
   rw [Bool.true_and]
   refine Ev.congr (Ev.bind (f := fun k t110 => (if t110 < 0 then (some false) else ((spec_l1In.f g 0 (wrap64 ((cs.length : Int) - 1))).bind fun t111 => (if t111 = true then (if 0 ≤ g then (if g < (cs.length : Int) then (some ((rd cs g) != 35)) else (none)) else (none)) else (some false))))) (tiPlace_ev cs (bt s 0) w h (by omega)) (Ev.const (r := decide (0 ≤ idxL cs (bt s 0) 0) && (decide (0 ≤ g ∧ g < (cs.length : Int)) && (rd cs g != 35))) ?_)) fun k => ?_
   ·by_cases h2 : 0 ≤ idxL cs (bt s 0) 0
    ·rw [if_neg (by omega), decide_eq_true h2, Bool.true_and, l1In_dec, Option.bind_some, w64 (n := (cs.length : Int) - 1) (by omega) (by omega)]
     by_cases h3 : 0 ≤ g ∧ g < (cs.length : Int)
     ·rw [if_pos (decide_eq_true (by omega)), if_pos h3.1, if_pos h3.2, decide_eq_true h3, Bool.true_and]
     ·rw [if_neg (by simp only [decide_eq_true_eq]; omega), decide_eq_false h3, Bool.false_and]
    ·rw [if_pos (by omega), decide_eq_false h2, Bool.false_and]
   ·rw [if_pos rfl, reName_eq, hs, Option.bind_some, if_pos rfl, if_pos (by omega)]
    rfl
theorem isPuzzle_ev (t s : ByteArray) (g : Int) (ht0 : t.size ≤ 1048576) : Ev (fun k => impl_IsPuzzle.f k t s g) (puzB t s g) := by
 refine Ev.bind (f := fun k (bt102 : Int × Bool) => (if bt102.2 = true then ((impl_isNumber.f k t (([g] : List Int))).bind fun t107 => (if t107 = true then ((impl_read.f t).bind fun bt108 => (if 0 ≤ g then (if g < (bt108.2.2.length : Int) then (some ((rd bt108.2.2 g) != 35)) else (none)) else (none))) else (some false))) else (some false))) (cellOf_ev t s ht0) ?_
 have hnum := isNumber_ev t ht0 [g] (by simp)
 unfold puzB cellOfR
 rcases ht : trayOf t with _ | ⟨w, h, cs⟩
 ·exact Ev.congr (Ev.const rfl) fun k => if_neg Bool.false_ne_true
 ·have hread := tray_read ht
  have hl : cs.length ≤ 36 := form_len ht
  rw [ht] at hnum
  have e4 : allCells cs [g] = decide (0 ≤ g ∧ g < (cs.length : Int)) := by
   unfold allCells
   rw [List.all_cons, List.all_nil, Bool.and_true]
   rfl
  simp only at hnum
  rw [e4] at hnum
  show Ev (fun k => if (if nameOK s = true then (idxL cs (bt s 0) 0, decide (idxL cs (bt s 0) 0 ≥ 0)) else (0, false)).2 = true then _ else _) (nameOK s && (decide (0 ≤ idxL cs (bt s 0) 0) && (decide (0 ≤ g ∧ g < (cs.length : Int)) && (rd cs g != 35))))
  cases hs : nameOK s with
  | false => exact Ev.congr (Ev.const (o := some false) rfl) fun k => if_neg (by simp)
  | true =>
   rw [Bool.true_and]
   by_cases h2 : 0 ≤ idxL cs (bt s 0) 0
   ·rw [decide_eq_true h2, Bool.true_and]
    refine Ev.congr (Ev.bind (f := fun _ (t107 : Bool) => (if t107 = true then ((impl_read.f t).bind fun bt108 => (if 0 ≤ g then (if g < (bt108.2.2.length : Int) then (some ((rd bt108.2.2 g) != 35)) else (none)) else (none))) else (some false))) hnum (Ev.const ?_)) fun k => ?_
    ·by_cases h3 : 0 ≤ g ∧ g < (cs.length : Int)
     ·rw [decide_eq_true h3, if_pos rfl, hread, Option.bind_some, if_pos h3.1, if_pos h3.2, Bool.true_and]
     ·rw [decide_eq_false h3, if_neg (by decide), Bool.false_and]
    ·exact if_pos (by first | (simp; done) | simpa using h2)
   ·rw [decide_eq_false h2, Bool.false_and]
    exact Ev.congr (Ev.const (o := some false) rfl) fun k => if_neg (by first | (simp; done) | simpa using h2)
theorem puz_parts {t s : ByteArray} {g : Int} (h : puzB t s g = true) : ∃ (w h : Nat) (cs : List Int), trayOf t = some ((w : Int), (h : Int), cs) ∧ 1 ≤ w ∧ w ≤ 7 ∧ 1 ≤ h ∧ h ≤ 7 ∧ w * h ≤ 36 ∧ cs.length = w * h ∧ nameOK s = true ∧ (0 ≤ g ∧ g < (cs.length : Int)) ∧ only cs (bt s 0) (idxL cs (bt s 0) 0) := by
 unfold puzB at h
 rcases ht : trayOf t with _ | ⟨w0, h0, cs0⟩
 ·rw [ht] at h
  cases h
 ·rw [ht] at h
  simp only [Bool.and_eq_true, decide_eq_true_eq] at h
  obtain ⟨a, b, c, _⟩ := h
  have hn := name_only (tray_named ht) a b
  obtain ⟨w, h, cs, e, hw1, hw, hh1, hh, hs, hn2⟩ := tray_parts ht
  injection e with e1 e2
  injection e2 with e2 e3
  subst e1 e2 e3
  exact ⟨w, h, cs0, rfl, hw1, hw, hh1, hh, hs, hn2, a, c, hn⟩
theorem solves_ev {t s u : ByteArray} {g : Int} {w h : Nat} {cs : List Int} (ht : trayOf t = some ((w : Int), (h : Int), cs)) (hw : w ≤ 7) (hh : h ≤ 7) (hs : w * h ≤ 36) (hw1 : 0 < w) (hh1 : 0 < h) (hn : cs.length = w * h) (hk : nameOK s = true) (hg : 0 ≤ g ∧ g < (cs.length : Int)) (hu : wordB u = true) :
  Ev (fun k => impl_Puzzle_solves.f k t s g u) (rd (tiltW w h (u.data.toList.map dirN) cs) g == bt s 0) := by
 obtain ⟨h1, _⟩ := of_decide_eq_true hk
 have hl := tiltW_len hw hh hs hw1 hh1 (u.data.toList.map dirN) cs wordB_lt hn
 refine Ev.congr (Ev.bind (f := fun _ (bt107 : Int × Int × List Int) => (if 0 ≤ g then (if g < (bt107.2.2.length : Int) then (if 0 < (s.size : Int) then (some ((rd bt107.2.2 g) == (bt s 0))) else (none)) else (none)) else (none))) (tiltedAll_ev hw hh hs hw1 hh1 hu hn) (Ev.const ?_)) fun k => ?_
 ·show (if 0 ≤ g then (if g < ((tiltW w h (u.data.toList.map dirN) cs).length : Int) then _ else _) else _) = _
  rw [if_pos hg.1, if_pos (by omega), if_pos (by omega)]
 ·unfold impl_Puzzle_solves.f
  rw [tray_read ht, Option.bind_some]
end Go.Proofs.YtepmpilopmcjpaaGreatDoor.Q
end
section
namespace Go.Proofs.YtepmpilopmcjpaaGreatDoor.Q
set_option linter.unusedSectionVars false
open Go.RowKit Go.Proofs.YtepmpilopmcjpaaGreatDoorW.PrintWords Go.Proofs.YtepmpilopmcjpaaGreatDoorW.PrintLast Go.Proofs.YtepmpilopmcjpaaGreatDoorW.PrintMore
theorem szPuz_pos (t s : ByteArray) (g : Int) (h : t.size + s.size ≤ 1048576) : ∃ z : Int, laws_szPuzzle.f t s g 1048576 = some z ∧ ¬ z < 0 := by
 refine ⟨1048576 - (t.size : Int) - s.size, ?_, by omega⟩
 unfold laws_szPuzzle.f
 rw [w64 (n := 1048576 - (t.size : Int)) (by omega) (by omega), if_neg (by omega), w64 (n := 1048576 - (t.size : Int) - s.size) (by omega) (by omega), if_neg (by omega)]
theorem szPuz_neg (t s : ByteArray) (g : Int) (ht : t.size ≤ 9223372036854775807) (hs : s.size ≤ 9223372036854775807) (h : ¬ t.size + s.size ≤ 1048576) : ∃ z : Int, laws_szPuzzle.f t s g 1048576 = some z ∧ z < 0 := by
 refine ⟨-1, ?_, by decide⟩
 unfold laws_szPuzzle.f
 rw [w64 (n := 1048576 - (t.size : Int)) (by omega) (by omega)]
 by_cases h1 : 1048576 - (t.size : Int) < 0
 ·rw [if_pos h1]
 ·rw [if_neg h1, w64 (n := 1048576 - (t.size : Int) - s.size) (by omega) (by omega), if_pos (by omega)]
end Go.Proofs.YtepmpilopmcjpaaGreatDoor.Q
end
section
namespace Go.Proofs.YtepmpilopmcjpaaGreatDoor.Q
open Go.RowKit Go.Proofs.YtepmpilopmcjpaaGreatDoorW.PrintWords Go.Proofs.YtepmpilopmcjpaaGreatDoorW.PrintLast Go.Proofs.YtepmpilopmcjpaaGreatDoorW.PrintMore
attribute [local go_sem] max2_int min2_int max_two min_two max_three min_three max_four min_four
set_option linter.unusedVariables false
set_option linter.unusedSimpArgs false
mutual
def spec_FirstSolved.j0 : Nat → ByteArray → Bool → ByteArray → ByteArray → Int → Option (ByteArray × Bool)
 | 0, _, _, _, _, _ => none
 | k + 1, x1, x16, x102000, x102001, x102002 => if x16 = true then (some ((⟨#[]⟩ : ByteArray), false)) else ((spec_tyRead.f k x102000).bind fun bt104 => (spec_FirstSolved.l0 k x1 0 x102000 x102001 x102002 bt104.1 bt104.2.1 bt104.2.2.1))
def spec_FirstSolved.l0 : Nat → ByteArray → Int → ByteArray → ByteArray → Int → Int → Int → List Int → Option (ByteArray × Bool)
 | 0, _, _, _, _, _, _, _, _ => none
 | k + 1, x1, x8, x102000, x102001, x102002, x111000, x111001, x111002 => if 0 < (x102001.size : Int) then ((spec_tiPlace.f k x111000 x111001 x111002 (bt x102001 0)).bind fun t111 => (if t111 = x102002 then (if 0 ≤ x8 then (if x8 ≤ (x1.size : Int) then (some (x1.extract 0 (x8 : Int).toNat, true)) else (none)) else (none)) else (if x8 = (x1.size : Int) then (some ((⟨#[]⟩ : ByteArray), false)) else (if 0 ≤ x8 then (if x8 ≤ (wrap64 (x8 + 1)) then (if (wrap64 (x8 + 1)) ≤ (x1.size : Int) then ((spec_tiDir.f k (x1.extract (x8 : Int).toNat ((wrap64 (x8 + 1)) : Int).toNat)).bind fun t112 => ((spec_tiTilt.f k x111000 x111001 x111002 t112).bind fun bt113 => (spec_FirstSolved.l0 k x1 (wrap64 (x8 + 1)) x102000 x102001 x102002 bt113.1 bt113.2.1 bt113.2.2))) else (none)) else (none)) else (none))))) else (none)
end
def spec_FirstSolved.f (k : Nat) (a0_0 : ByteArray) (a0_1 : ByteArray) (a0_2 : Int) (a1 : ByteArray) : Option (ByteArray × Bool) := (spec_puGood.f k a0_0 a0_1 a0_2).bind fun t102 => (if t102 = true then ((spec_tiWord.f k a1).bind fun t103 => (spec_FirstSolved.j0 k a1 (!t103) a0_0 a0_1 a0_2)) else (spec_FirstSolved.j0 k a1 true a0_0 a0_1 a0_2))
def spec_FirstSolved.T6 : Bool × List (List Nat × List Nat) := (true, [([], []), ([], []), ([1], [1]), ([2], [2]), ([0, 3], [0, 3]), ([], []), ([5], [5]), ([4, 6], [4, 6])])
def spec_FirstSolved.B6 : List Nat := [0, 0, 2, 6, 15, 0, 32, 127]
theorem spec_FirstSolved.tab6 : rtab .any (opsOf Tryz.f24 6) = spec_FirstSolved.T6 := by kernel_rfl
theorem spec_FirstSolved.bits6 : waitsOk spec_FirstSolved.T6.2 spec_FirstSolved.B6 = true := by kernel_rfl
def spec_FirstSolved.T10 : Bool × List (List Nat × List Nat) := (true, [([], []), ([], []), ([], []), ([], []), ([3], [3]), ([1, 2, 4], [1, 2, 4]), ([5], [5]), ([0, 6, 6], [0, 6]), ([7, 7, 0, 1, 2, 3, 4, 5, 6, 7], [7])])
def spec_FirstSolved.B10 : List Nat := [0, 0, 0, 0, 8, 30, 62, 127, 255]
theorem spec_FirstSolved.tab10 : rtab .any (opsOf Tryz.f24 10) = spec_FirstSolved.T10 := by kernel_rfl
theorem spec_FirstSolved.bits10 : waitsOk spec_FirstSolved.T10.2 spec_FirstSolved.B10 = true := by kernel_rfl
set_option maxHeartbeats 8000000 in
set_option maxRecDepth 100000 in
theorem spec_FirstSolved.calls (k : Nat) (a0_0 : ByteArray) (a0_1 : ByteArray) (a0_2 : Int) (a1 : ByteArray) (r1 : ByteArray) (r2 : Bool) (w : World) (h : spec_FirstSolved.f k a0_0 a0_1 a0_2 a1 = some (r1, r2)) :
  Calls Tryz.prog 24 #[.agg #[.string a0_0, .string a0_1, .int .i64 a0_2], .string a1] w fun e w' => e = .returned (.tuple #[.string r1, .bool r2]) ∧ Below w.heap.size w w' := by
 have hu38 := Tryz.underlying38
 have hu45 := Tryz.underlying45
 have HB := Aside0.mk (Below.refl w.heap.size w)
 have H : ((spec_puGood.f k a0_0 a0_1 a0_2).bind fun t102 => (if t102 = true then ((spec_tiWord.f k a1).bind fun t103 => (spec_FirstSolved.j0 k a1 (!t103) a0_0 a0_1 a0_2)) else (spec_FirstSolved.j0 k a1 true a0_0 a0_1 a0_2))) = some (r1, r2) := h
 clear h
 have HC3 := Aside0.mk H
 clear H
 go_enter Tryz.func24, Tryz.ntmps24
 go_upto_region 1 with (first | ((with_reducible refine gate_dst (N := 2) rfl ?_); refine boxE (N := 2) (cs := #[.string a0_0, .string a0_1, .int .i64 a0_2]) (t := 38) ?_; intro gb101 hg w4 hbox hb; have n0_ := Aside0.mk (below_step (bel HB) hb); have n1_ := Aside0.mk (hbox); have n2_ := Aside0.mk (gsz hg (bel HB)); have n3_ := Aside0.mk (gsz hg (bel HB)); clear HB; have HB := n0_; have BK101 := n1_; have GW101 := n2_; have GE101 := n3_; clear n0_ n1_ n2_ n3_; clear hb hbox hg))
 (try simp only [Act.put, List.setIfInBounds_toArray, List.set_cons_zero, List.set_cons_succ])
 go_cut [16] (fun v16 wc => ∃ (kq : Nat) (x16_2 : Bool), v16 = .bool x16_2 ∧ Aside0 (spec_FirstSolved.j0 kq a1 x16_2 a0_0 a0_1 a0_2 = some (r1, r2)) ∧ Aside0 (kq ≤ k) ∧ Aside0 (wc.heap[gb101]? = some (.cells #[.string a0_0, .string a0_1, .int .i64 a0_2] 38 (0, 0))) ∧ Aside0 (Below w.heap.size w wc))
 case first =>
  have H := HC3.out
  clear HC3
  replace H := Option.bind_eq_some_iff.mp H
  obtain ⟨t102, A50, H⟩ := H
  replace H : (if t102 = true then ((spec_tiWord.f k a1).bind fun t103 => (spec_FirstSolved.j0 k a1 (!t103) a0_0 a0_1 a0_2)) else (spec_FirstSolved.j0 k a1 true a0_0 a0_1 a0_2)) = some (r1, r2) := H
  have A5 := Aside0.mk A50
  clear A50
  by_cases c6 : t102 = true
  ·subst c6
   have H1 : ((spec_tiWord.f k a1).bind fun t103 => (spec_FirstSolved.j0 k a1 (!t103) a0_0 a0_1 a0_2)) = some (r1, r2) := by rw [if_pos rfl] at H; exact H
   clear H
   have H := H1
   clear H1
   replace H := Option.bind_eq_some_iff.mp H
   obtain ⟨t103, A70, H⟩ := H
   replace H : (spec_FirstSolved.j0 k a1 (!t103) a0_0 a0_1 a0_2) = some (r1, r2) := H
   have A7 := Aside0.mk A70
   clear A70
   have H' := Aside0.mk H
   clear H
   have hcz8_0 : w4.cell? ⟨gb101, 0, none⟩ = some (.string a0_0) := (blk_cell BK101.out 0).trans rfl
   have hcz8_1 : w4.cell? ⟨gb101, 1, none⟩ = some (.string a0_1) := (blk_cell BK101.out 1).trans rfl
   have hcz8_2 : w4.cell? ⟨gb101, 2, none⟩ = some (.int .i64 a0_2) := (blk_cell BK101.out 2).trans rfl
   have hfz8_0 := blk_frozen BK101.out 0
   have hfz8_1 := blk_frozen BK101.out 1
   have hfz8_2 := blk_frozen BK101.out 2
   go_wp2_with (first | ((with_reducible refine gate_callee (f := 52) rfl ?_); refine gcall (some 10) Tryz.func52 #[.agg #[.string a0_0, .string a0_1, .int .i64 a0_2]] rfl ?_; (with_reducible refine (spec_puGood.calls k a0_0 a0_1 a0_2 true _ A5.out).mono ?_); rintro e w9 ⟨rfl, hb⟩; refine ⟨_, rfl, ?_⟩; have n0_ := Aside0.mk (blk_below (g := gb101) (o := .cells #[.string a0_0, .string a0_1, .int .i64 a0_2] 38 (0, 0)) blc hb); have n1_ := Aside0.mk (below_step (bel HB) hb); clear BK101; clear HB; have BK101 := n0_; have HB := n1_; clear n0_ n1_; (try clear hb); (try clear hb2); (try clear hk); (try clear hi)) | (go_at_call 40; (with_reducible refine (spec_tiWord.calls k a1 t103 _ A7.out).mono ?_); rintro e w' ⟨rfl, ⟨nd, rfl⟩⟩))
   go_meet
   case rel => exact ⟨_, (!t103), (by first | rfl | (simp; done) | (simp [*]; done)), H', ⟨by first | omega | exact Nat.le_refl _⟩, ⟨blc⟩, ⟨bel HB⟩⟩
  ·replace c6 := Bool.eq_false_iff.mpr c6
   subst c6
   have H1 : (spec_FirstSolved.j0 k a1 true a0_0 a0_1 a0_2) = some (r1, r2) := by rw [if_neg (show ¬ (false = true) by decide)] at H; exact H
   clear H
   have H := H1
   clear H1
   have H' := Aside0.mk H
   clear H
   have hcz10_0 : w4.cell? ⟨gb101, 0, none⟩ = some (.string a0_0) := (blk_cell BK101.out 0).trans rfl
   have hcz10_1 : w4.cell? ⟨gb101, 1, none⟩ = some (.string a0_1) := (blk_cell BK101.out 1).trans rfl
   have hcz10_2 : w4.cell? ⟨gb101, 2, none⟩ = some (.int .i64 a0_2) := (blk_cell BK101.out 2).trans rfl
   have hfz10_0 := blk_frozen BK101.out 0
   have hfz10_1 := blk_frozen BK101.out 1
   have hfz10_2 := blk_frozen BK101.out 2
   go_wp2_with (first | ((with_reducible refine gate_callee (f := 52) rfl ?_); refine gcall (some 10) Tryz.func52 #[.agg #[.string a0_0, .string a0_1, .int .i64 a0_2]] rfl ?_; (with_reducible refine (spec_puGood.calls k a0_0 a0_1 a0_2 false _ A5.out).mono ?_); rintro e w11 ⟨rfl, hb⟩; refine ⟨_, rfl, ?_⟩; have n0_ := Aside0.mk (blk_below (g := gb101) (o := .cells #[.string a0_0, .string a0_1, .int .i64 a0_2] 38 (0, 0)) blc hb); have n1_ := Aside0.mk (below_step (bel HB) hb); clear BK101; clear HB; have BK101 := n0_; have HB := n1_; clear n0_ n1_; (try clear hb); (try clear hb2); (try clear hk); (try clear hi)))
   go_meet
   case rel => exact ⟨_, (true), (by first | rfl | (simp; done) | (simp [*]; done)), H', ⟨by first | omega | exact Nat.le_refl _⟩, ⟨blc⟩, ⟨bel HB⟩⟩
 case rest =>
  clear HC3
  try clear c2
  try clear p2
  try clear c5
  try clear c6
  try clear hcz10_0
  try clear hcz10_1
  try clear hcz10_2
  try clear hcz8_0
  try clear hcz8_1
  try clear hcz8_2
  try clear hfz10_0
  try clear hfz10_1
  try clear hfz10_2
  try clear hfz8_0
  try clear hfz8_1
  try clear hfz8_2
  obtain ⟨kq, x16_2, rfl, HA, HJ2, BK101, HB⟩ := hcut
  cases kq with
  | zero => exact absurd HA.out (by simp [spec_FirstSolved.j0])
  | succ kj2 =>
   have H := HA.out
   clear HA
   simp only [spec_FirstSolved.j0] at H
   by_cases c12 : x16_2 = true
   ·subst c12
    have H1 : (some ((⟨#[]⟩ : ByteArray), false)) = some (r1, r2) := by rw [if_pos rfl] at H; exact H
    clear H
    have H := H1
    clear H1
    simp only [Option.some.injEq, Prod.mk.injEq] at H
    obtain ⟨rfl, rfl⟩ := H
    go_wp2
    go_ret2
    exact ⟨by first | rfl | (simp [errW_none, errW_some] <;> rfl) | (simp [*, errW_none, errW_some] <;> rfl), bel HB⟩
   ·replace c12 := Bool.eq_false_iff.mpr c12
    subst c12
    have H1 : ((spec_tyRead.f kj2 a0_0).bind fun bt104 => (spec_FirstSolved.l0 kj2 a1 0 a0_0 a0_1 a0_2 bt104.1 bt104.2.1 bt104.2.2.1)) = some (r1, r2) := by rw [if_neg (show ¬ (false = true) by decide)] at H; exact H
    clear H
    have H := H1
    clear H1
    replace H := Option.bind_eq_some_iff.mp H
    obtain ⟨⟨t104, t105, t106, t109⟩, A130, H⟩ := H
    replace H : (spec_FirstSolved.l0 kj2 a1 0 a0_0 a0_1 a0_2 t104 t105 t106) = some (r1, r2) := H
    have A13 := Aside0.mk A130
    clear A130
    have H' := Aside0.mk H
    clear H
    have hcz14_0 : wc.cell? ⟨gb101, 0, none⟩ = some (.string a0_0) := (blk_cell BK101.out 0).trans rfl
    have hcz14_1 : wc.cell? ⟨gb101, 1, none⟩ = some (.string a0_1) := (blk_cell BK101.out 1).trans rfl
    have hcz14_2 : wc.cell? ⟨gb101, 2, none⟩ = some (.int .i64 a0_2) := (blk_cell BK101.out 2).trans rfl
    have hfz14_0 := blk_frozen BK101.out 0
    have hfz14_1 := blk_frozen BK101.out 1
    have hfz14_2 := blk_frozen BK101.out 2
    go_wp2_with (first | ((with_reducible refine gate_callee (f := 39) rfl ?_); refine gcall (some 20) Tryz.func39 #[.string a0_0] rfl ?_; (with_reducible refine (spec_tyRead.calls kj2 a0_0 t104 t105 t106 t109 _ A13.out).mono ?_); rintro e w15 ⟨v107, rfl, ho0, hb⟩; refine ⟨_, rfl, ?_⟩; have n0_ := Aside0.mk (Kd.R_lower ho0 (below_size (bel HB))); have n1_ := Aside0.mk (blk_below (g := gb101) (o := .cells #[.string a0_0, .string a0_1, .int .i64 a0_2] 38 (0, 0)) blc hb); have n2_ := Aside0.mk (below_step (bel HB) hb); clear BK101; clear HB; have HO108 := n0_; have BK101 := n1_; have HB := n2_; clear n0_ n1_ n2_; (try clear hb); (try clear hb2); (try clear hk); (try clear hi); (try clear ho0)) | ((with_reducible refine gate_dst (N := 6) rfl ?_); refine boxE (N := 6) (cs := #[.int .i64 0, .int .i64 0, .slice none 0 0]) (t := 45) ?_; intro gb110 hg w16 hbox hb; have n0_ := Aside0.mk (Kd.R_below (rch HO108) hb); have n1_ := Aside0.mk (blk_below (g := gb101) (o := .cells #[.string a0_0, .string a0_1, .int .i64 a0_2] 38 (0, 0)) blc hb); have n2_ := Aside0.mk (below_step (bel HB) hb); have n3_ := Aside0.mk (hbox); have n4_ := Aside0.mk (gsz hg (bel HB)); have n5_ := Aside0.mk (gsz hg (bel HB)); have n6_ := Aside0.mk ((by rw [hg]; exact Nat.ne_of_lt (blk_lt (g := gb101) (o := .cells #[.string a0_0, .string a0_1, .int .i64 a0_2] 38 (0, 0)) blc) : gb101 ≠ gb110)); have n7_ := Aside0.mk ((by rw [hg]; exact Nat.ne_of_gt (blk_lt (g := gb101) (o := .cells #[.string a0_0, .string a0_1, .int .i64 a0_2] 38 (0, 0)) blc) : gb110 ≠ gb101)); clear HO108; clear BK101; clear HB; have HO108 := n0_; have BK101 := n1_; have HB := n2_; have BK110 := n3_; have GW110 := n4_; have GE110 := n5_; have NB101_110 := n6_; have NB110_101 := n7_; clear n0_ n1_ n2_ n3_ n4_ n5_ n6_ n7_; clear hb hbox hg; have hnb17 := NB110_101.out; have hnc17 := NB101_110.out; have hcz18_0 : w16.cell? ⟨gb110, 0, none⟩ = some (.int .i64 0) := (blk_cell BK110.out 0).trans rfl; have hcz18_1 : w16.cell? ⟨gb110, 1, none⟩ = some (.int .i64 0) := (blk_cell BK110.out 1).trans rfl; have hcz18_2 : w16.cell? ⟨gb110, 2, none⟩ = some (.slice none 0 0) := (blk_cell BK110.out 2).trans rfl; have hfz18_0 := blk_frozen BK110.out 0; have hfz18_1 := blk_frozen BK110.out 1; have hfz18_2 := blk_frozen BK110.out 2; obtain ⟨Ao19, co19, eo19⟩ := Kd.R_slice HO108.out; subst eo19))
    go_loopg [8] kj2 (fun kq v8 w' => ∃ (x8_2 : Int) (x111000_2 : Int) (x111001_2 : Int) (x111002_2 : List Int) (u111002 : Value), v8 = .int .i64 x8_2 ∧ Aside0 (spec_FirstSolved.l0 kq a1 x8_2 a0_0 a0_1 a0_2 x111000_2 x111001_2 x111002_2 = some (r1, r2)) ∧ Aside0 (kq ≤ kj2) ∧ Aside0 (Kd.R (Kd.int .u8) 5 w' w.heap.size (fun _ => True) u111002 x111002_2) ∧ Aside0 (w'.heap[gb101]? = some (.cells #[.string a0_0, .string a0_1, .int .i64 a0_2] 38 (0, 0))) ∧ Aside0 (w'.heap[gb110]? = some (.cells #[.int .i64 x111000_2, .int .i64 x111001_2, u111002] 45 (0, 0))) ∧ Aside0 (Below w.heap.size w w'))
    case atStart => exact ⟨(0), (t104), (t105), (t106), (.slice Ao19 t106.length co19), (by first | rfl | (simp; done) | (simp [*]; done)), H', ⟨Nat.le_refl _⟩, ⟨by (with_reducible repeat (first | apply Kd.R_alloc | apply Kd.R_drewN | apply Kd.R_drew)); exact Kd.R_mono (Kd.R_far (p := ⟨gb110, 2, none⟩) (Kd.R_far (p := ⟨gb110, 1, none⟩) (Kd.R_far (p := ⟨gb110, 0, none⟩) (Kd.R_types HO108.out BK110.out (by decide)) (fun _ hk => hk.2) (.int .i64 t104)) (fun _ hk => hk.2) (.int .i64 t105)) (fun _ hk => hk.2) (.slice Ao19 t106.length co19)) (fun _ hk => trivial)⟩, ⟨by (with_reducible repeat (first | refine blk_drewN ?_ _ | refine blk_drew ?_ | refine blk_alloc ?_ _)); refine blk_far ?_ NB101_110.out _; (with_reducible repeat (first | refine blk_drewN ?_ _ | refine blk_drew ?_ | refine blk_alloc ?_ _)); refine blk_far ?_ NB101_110.out _; (with_reducible repeat (first | refine blk_drewN ?_ _ | refine blk_drew ?_ | refine blk_alloc ?_ _)); refine blk_far ?_ NB101_110.out _; exact blc⟩, ⟨by (with_reducible repeat (first | refine blk_drewN ?_ _ | refine blk_drew ?_ | refine blk_alloc ?_ _)); refine blk_put (cs := #[.int .i64 t104, .int .i64 t105, .slice none 0 0]) ?_ 2 _ rfl; (with_reducible repeat (first | refine blk_drewN ?_ _ | refine blk_drew ?_ | refine blk_alloc ?_ _)); refine blk_put (cs := #[.int .i64 t104, .int .i64 0, .slice none 0 0]) ?_ 1 _ rfl; (with_reducible repeat (first | refine blk_drewN ?_ _ | refine blk_drew ?_ | refine blk_alloc ?_ _)); refine blk_put (cs := #[.int .i64 0, .int .i64 0, .slice none 0 0]) ?_ 0 _ rfl; exact blc⟩, ⟨bel HB⟩⟩
    case round =>
     clear H'
     try clear c1
     try clear c2
     try clear p2
     try clear c3
     try clear c5
     try clear c6
     try clear c12
     try clear c17
     try clear hcz10_0
     try clear hcz10_1
     try clear hcz10_2
     try clear hcz14_0
     try clear hcz14_1
     try clear hcz14_2
     try clear hcz18_0
     try clear hcz18_1
     try clear hcz18_2
     try clear hcz8_0
     try clear hcz8_1
     try clear hcz8_2
     try clear hfz10_0
     try clear hfz10_1
     try clear hfz10_2
     try clear hfz14_0
     try clear hfz14_1
     try clear hfz14_2
     try clear hfz18_0
     try clear hfz18_1
     try clear hfz18_2
     try clear hfz8_0
     try clear hfz8_1
     try clear hfz8_2
     try clear p2
     obtain ⟨x8_2, x111000_2, x111001_2, x111002_2, u111002, rfl, HA, HK2, HO_111002, BK101, BK110, HB⟩ := hrel
     cases gk with
     | zero => exact absurd HA.out (by simp [spec_FirstSolved.l0])
     | succ k2 =>
      have H := HA.out
      clear HA
      simp only [spec_FirstSolved.l0] at H
      by_cases c20 : 0 < (a0_1.size : Int)
      ·rw [if_pos c20] at H
       have c20b0 : decide (0 < (a0_1.size : Int)) = true := decide_eq_true c20
       have c20b1 : decide (0 < a0_1.size) = true := decide_eq_true (by omega)
       clear c20
       replace H := Option.bind_eq_some_iff.mp H
       obtain ⟨t111, A220, H⟩ := H
       replace H : (if t111 = a0_2 then (if 0 ≤ x8_2 then (if x8_2 ≤ (a1.size : Int) then (some (a1.extract 0 (x8_2 : Int).toNat, true)) else (none)) else (none)) else (if x8_2 = (a1.size : Int) then (some ((⟨#[]⟩ : ByteArray), false)) else (if 0 ≤ x8_2 then (if x8_2 ≤ (wrap64 (x8_2 + 1)) then (if (wrap64 (x8_2 + 1)) ≤ (a1.size : Int) then ((spec_tiDir.f k2 (a1.extract (x8_2 : Int).toNat ((wrap64 (x8_2 + 1)) : Int).toNat)).bind fun t112 => ((spec_tiTilt.f k2 x111000_2 x111001_2 x111002_2 t112).bind fun bt113 => (spec_FirstSolved.l0 k2 a1 (wrap64 (x8_2 + 1)) a0_0 a0_1 a0_2 bt113.1 bt113.2.1 bt113.2.2))) else (none)) else (none)) else (none)))) = some (r1, r2) := H
       have A22 := Aside0.mk A220
       clear A220
       by_cases c23 : t111 = a0_2
       ·rw [if_pos c23] at H
        have c23b0 : (t111 == a0_2) = true := beq_iff_eq.mpr c23
        have c23b1 : (t111 != a0_2) = false := bne_eq_false_iff_eq.mpr c23
        clear c23
        by_cases c24 : 0 ≤ x8_2
        ·rw [if_pos c24] at H
         have c24b0 := eq_true c24
         have c24b1 : decide (0 ≤ x8_2) = true := decide_eq_true c24
         clear c24
         by_cases c25 : x8_2 ≤ (a1.size : Int)
         ·rw [if_pos c25] at H
          have c25b0 := eq_true c25
          have c25b1 : decide (x8_2 ≤ (a1.size : Int)) = true := decide_eq_true c25
          clear c25
          simp only [Option.some.injEq, Prod.mk.injEq] at H
          obtain ⟨rfl, rfl⟩ := H
          try go_wp2
          have n0_ := Aside0.mk (Kd.R_drew HO_111002.out)
          have n1_ := Aside0.mk (blk_drew BK101.out)
          have n2_ := Aside0.mk (blk_drew BK110.out)
          have n3_ := Aside0.mk (below_drew1 HB.out)
          clear HO_111002
          clear BK101
          clear BK110
          clear HB
          have HO_111002 := n0_
          have BK101 := n1_
          have BK110 := n2_
          have HB := n3_
          clear n0_ n1_ n2_ n3_
          have p21 : 0 ≤ (0 : Int) := (by omega)
          have q21 : 0 < a0_1.size := (by have : (0 : Int) < (a0_1.size : Int) := of_decide_eq_true (by first | (with_reducible assumption) | assumption); omega)
          have hx21 : ∀ h : 0 < a0_1.size, ((a0_1[0]'h).toNat : Int) = bt a0_1 0 := bt_at a0_1 0
          clear p21
          have qi21 : (0 < (a0_1.size : Int)) = True := eq_true (of_decide_eq_true (by first | (with_reducible assumption) | assumption))
          replace q21 := eq_true q21
          obtain ⟨Ao27, co27, eo27⟩ := Kd.R_slice HO_111002.out
          (first | subst eo27 | (injection eo27 with f1_ f2_ f3_; have f4_ := f1_.symm; have f5_ := f3_.symm; clear f1_ f2_ f3_; subst f4_; subst f5_))
          refine start_ (n := 8) (S := fun w' => w'.cell? ⟨gb110, 0, none⟩ = some (.int .i64 x111000_2) ∧ w'.cell? ⟨gb110, 1, none⟩ = some (.int .i64 x111001_2) ∧ w'.cell? ⟨gb110, 2, none⟩ = some (.slice Ao27 x111002_2.length co27) ∧ w'.cell? ⟨gb101, 0, none⟩ = some (.string a0_0) ∧ w'.cell? ⟨gb101, 1, none⟩ = some (.string a0_1) ∧ w'.cell? ⟨gb101, 2, none⟩ = some (.int .i64 a0_2)) (ds := []) #[false, false, false, false, false, false, false, false] (by kernel_rfl) rfl rfl ⟨(blk_cell BK110.out 0).trans rfl, (blk_cell BK110.out 1).trans rfl, (blk_cell BK110.out 2).trans rfl, (blk_cell BK101.out 0).trans rfl, (blk_cell BK101.out 1).trans rfl, (blk_cell BK101.out 2).trans rfl⟩ (fun hHeld => ?_); refine with_tabW spec_FirstSolved.tab6 spec_FirstSolved.bits6 (fun HT_ HW_ => ?_)
          generalize wr.drew = w26 at HO_111002 BK101 BK110 HB hHeld ⊢
          refine pure_ (i := 1) (N := some 26) (v := ?_) (a' := ?_) #[false, true, false, false, false, false, false, false] rfl rfl (any_of HT_.out (by kernel_rfl)) (fun _ _ _ h => h) (Or.inl ⟨by rfl, ?_⟩) ?_ ?_
          rotate_left
          ·intro w'
           go_simp
           with_reducible rfl
          rotate_left
          ·simp only [Act.put, List.setIfInBounds_toArray, List.set_cons_zero, List.set_cons_succ, i64_w, i32_w]
           rfl
          refine pure_ (i := 5) (N := some 30) (v := ?_) (a' := ?_) #[false, true, false, false, false, true, false, false] rfl rfl (any_of HT_.out (by kernel_rfl)) (fun _ _ _ h => h) (Or.inl ⟨by rfl, ?_⟩) ?_ ?_
          rotate_left
          ·intro w'
           go_simp
           with_reducible rfl
          rotate_left
          ·simp only [Act.put, List.setIfInBounds_toArray, List.set_cons_zero, List.set_cons_succ, i64_w, i32_w]
           rfl
          refine take_ (i := 0) (N := some 25) (v := ?_) (a' := ?_) #[true, true, false, false, false, true, false, false] rfl rfl (take_ofW HT_.out HW_.out (by kernel_rfl)) (fun _ _ _ h => h) (Or.inl ⟨by rfl, ?_⟩) hHeld ?_ ?_
          rotate_left
          ·rintro w' ⟨s0, s1, s2, s3, s4, s5⟩
           go_simp
           with_reducible rfl
          rotate_left
          ·simp only [Act.put, List.setIfInBounds_toArray, List.set_cons_zero, List.set_cons_succ, i64_w, i32_w]
           rfl
          refine take_ (i := 2) (N := some 27) (v := ?_) (a' := ?_) #[true, true, true, false, false, true, false, false] rfl rfl (take_ofW HT_.out HW_.out (by kernel_rfl)) (fun _ _ _ h => h) (Or.inl ⟨by rfl, ?_⟩) hHeld ?_ ?_
          rotate_left
          ·rintro w' ⟨s0, s1, s2, s3, s4, s5⟩
           go_simp
           with_reducible rfl
          rotate_left
          ·simp only [Act.put, List.setIfInBounds_toArray, List.set_cons_zero, List.set_cons_succ, i64_w, i32_w]
           rfl
          refine take_ (i := 3) (N := some 28) (v := ?_) (a' := ?_) #[true, true, true, true, false, true, false, false] rfl rfl (take_ofW HT_.out HW_.out (by kernel_rfl)) (fun _ _ _ h => h) (Or.inl ⟨by rfl, ?_⟩) hHeld ?_ ?_
          rotate_left
          ·rintro w' ⟨s0, s1, s2, s3, s4, s5⟩
           go_simp
           with_reducible rfl
          rotate_left
          ·simp only [Act.put, List.setIfInBounds_toArray, List.set_cons_zero, List.set_cons_succ, i64_w, i32_w]
           rfl
          refine take_ (i := 6) (N := some 31) (v := ?_) (a' := ?_) #[true, true, true, true, false, true, true, false] rfl rfl (take_ofW HT_.out HW_.out (by kernel_rfl)) (fun _ _ _ h => h) (Or.inl ⟨by rfl, ?_⟩) hHeld ?_ ?_
          rotate_left
          ·rintro w' ⟨s0, s1, s2, s3, s4, s5⟩
           go_simp
           with_reducible rfl
          rotate_left
          ·simp only [Act.put, List.setIfInBounds_toArray, List.set_cons_zero, List.set_cons_succ, i64_w, i32_w]
           rfl
          refine one_ (i := 4) (N := some 29) #[true, true, true, true, true, true, true, false] rfl rfl (one_of HT_.out (by kernel_rfl)) (by decide) (fun K hK => ?_)
          refine goes_ Tryz.func41 (by kernel_rfl) rfl #[.agg #[.int .i64 x111000_2, .int .i64 x111001_2, .slice Ao27 x111002_2.length co27], .int .u8 (bt a0_1 0)] (by rfl) rfl rfl (by (try simp only [List.map_toArray, List.map_cons, List.map_nil]); first | done | rfl | (simp only [List.length_drop, List.length_take]; rfl)) ?_
          with_reducible refine (spec_tiPlace.calls k2 x111000_2 x111001_2 _ _ x111002_2 (bt a0_1 0) t111 _ ?side1 ?side2 A22.out).mono ?_
          (case side1 => repeat (first | exact (Kd.R_reads' HO_111002.out).2.2 | (with_reducible refine Kd.C_alloc ?_ _) | (with_reducible refine Kd.C_drewN ?_ _) | (with_reducible refine Kd.C_drew ?_)))
          (case side2 => exact (Kd.R_reads' HO_111002.out).2.1)
          rintro e w28 ⟨rfl, hb⟩
          refine ⟨_, rfl, ?_⟩
          have n0_ := Aside0.mk (Kd.R_below (rch HO_111002) hb)
          have n1_ := Aside0.mk (blk_below (g := gb101) (o := .cells #[.string a0_0, .string a0_1, .int .i64 a0_2] 38 (0, 0)) blc hb)
          have n2_ := Aside0.mk (blk_below (g := gb110) (o := .cells #[.int .i64 x111000_2, .int .i64 x111001_2, .slice Ao27 x111002_2.length co27] 45 (0, 0)) blc hb)
          have n3_ := Aside0.mk (below_step (bel HB) hb)
          clear HO_111002
          clear BK101
          clear BK110
          clear HB
          have HO_111002 := n0_
          have BK101 := n1_
          have BK110 := n2_
          have HB := n3_
          clear n0_ n1_ n2_ n3_
          (try clear hb)
          (try clear hb2)
          (try clear hk)
          (try clear hi)
          refine hK.out _ _ ⟨(blk_cell BK110.out 0).trans rfl, (blk_cell BK110.out 1).trans rfl, (blk_cell BK110.out 2).trans rfl, (blk_cell BK101.out 0).trans rfl, (blk_cell BK101.out 1).trans rfl, (blk_cell BK101.out 2).trans rfl⟩ (fun hHeld => ?_)
          clear hK K
          refine norm_ (a' := ?_) ?_ ?_
          rotate_left
          ·show Act.put _ (some 29) _ = _
           simp only [Act.put, List.setIfInBounds_toArray, List.set_cons_zero, List.set_cons_succ, i64_w, i32_w]
           rfl
          refine pure_ (i := 7) (N := some 32) (v := ?_) (a' := ?_) #[true, true, true, true, true, true, true, true] rfl rfl (any_of HT_.out (by kernel_rfl)) (fun _ _ _ h => h) (Or.inl ⟨by rfl, ?_⟩) ?_ ?_
          rotate_left
          ·intro w'
           go_simp
           with_reducible rfl
          rotate_left
          ·simp only [Act.put, List.setIfInBounds_toArray, List.set_cons_zero, List.set_cons_succ, i64_w, i32_w]
           rfl
          refine done_ (done_of HT_.out (by kernel_rfl)) ?_
          try go_wp2
          go_ret2
          exact ⟨by first | rfl | (simp [errW_none, errW_some] <;> rfl) | (simp [*, errW_none, errW_some] <;> rfl), bel HB⟩
         ·rw [if_neg c25] at H
          exact absurd H (by simp)
        ·rw [if_neg c24] at H
         exact absurd H (by simp)
       ·rw [if_neg c23] at H
        have c23b0 : (t111 == a0_2) = false := beq_eq_false_iff_ne.mpr c23
        have c23b1 : (t111 != a0_2) = true := bne_iff_ne.mpr c23
        by_cases c29 : x8_2 = (a1.size : Int)
        ·rw [if_pos c29] at H
         have c29b0 : (x8_2 == (a1.size : Int)) = true := beq_iff_eq.mpr c29
         have c29b1 : (x8_2 != (a1.size : Int)) = false := bne_eq_false_iff_eq.mpr c29
         clear c29
         simp only [Option.some.injEq, Prod.mk.injEq] at H
         obtain ⟨rfl, rfl⟩ := H
         try go_wp2
         have n0_ := Aside0.mk (Kd.R_drew HO_111002.out)
         have n1_ := Aside0.mk (blk_drew BK101.out)
         have n2_ := Aside0.mk (blk_drew BK110.out)
         have n3_ := Aside0.mk (below_drew1 HB.out)
         clear HO_111002
         clear BK101
         clear BK110
         clear HB
         have HO_111002 := n0_
         have BK101 := n1_
         have BK110 := n2_
         have HB := n3_
         clear n0_ n1_ n2_ n3_
         have p21 : 0 ≤ (0 : Int) := (by omega)
         have q21 : 0 < a0_1.size := (by have : (0 : Int) < (a0_1.size : Int) := of_decide_eq_true (by first | (with_reducible assumption) | assumption); omega)
         have hx21 : ∀ h : 0 < a0_1.size, ((a0_1[0]'h).toNat : Int) = bt a0_1 0 := bt_at a0_1 0
         clear p21
         have qi21 : (0 < (a0_1.size : Int)) = True := eq_true (of_decide_eq_true (by first | (with_reducible assumption) | assumption))
         replace q21 := eq_true q21
         obtain ⟨Ao31, co31, eo31⟩ := Kd.R_slice HO_111002.out
         (first | subst eo31 | (injection eo31 with f1_ f2_ f3_; have f4_ := f1_.symm; have f5_ := f3_.symm; clear f1_ f2_ f3_; subst f4_; subst f5_))
         refine start_ (n := 8) (S := fun w' => w'.cell? ⟨gb110, 0, none⟩ = some (.int .i64 x111000_2) ∧ w'.cell? ⟨gb110, 1, none⟩ = some (.int .i64 x111001_2) ∧ w'.cell? ⟨gb110, 2, none⟩ = some (.slice Ao31 x111002_2.length co31) ∧ w'.cell? ⟨gb101, 0, none⟩ = some (.string a0_0) ∧ w'.cell? ⟨gb101, 1, none⟩ = some (.string a0_1) ∧ w'.cell? ⟨gb101, 2, none⟩ = some (.int .i64 a0_2)) (ds := []) #[false, false, false, false, false, false, false, false] (by kernel_rfl) rfl rfl ⟨(blk_cell BK110.out 0).trans rfl, (blk_cell BK110.out 1).trans rfl, (blk_cell BK110.out 2).trans rfl, (blk_cell BK101.out 0).trans rfl, (blk_cell BK101.out 1).trans rfl, (blk_cell BK101.out 2).trans rfl⟩ (fun hHeld => ?_); refine with_tabW spec_FirstSolved.tab6 spec_FirstSolved.bits6 (fun HT_ HW_ => ?_)
         generalize wr.drew = w30 at HO_111002 BK101 BK110 HB hHeld ⊢
         refine pure_ (i := 1) (N := some 26) (v := ?_) (a' := ?_) #[false, true, false, false, false, false, false, false] rfl rfl (any_of HT_.out (by kernel_rfl)) (fun _ _ _ h => h) (Or.inl ⟨by rfl, ?_⟩) ?_ ?_
         rotate_left
         ·intro w'
          go_simp
          with_reducible rfl
         rotate_left
         ·simp only [Act.put, List.setIfInBounds_toArray, List.set_cons_zero, List.set_cons_succ, i64_w, i32_w]
          rfl
         refine pure_ (i := 5) (N := some 30) (v := ?_) (a' := ?_) #[false, true, false, false, false, true, false, false] rfl rfl (any_of HT_.out (by kernel_rfl)) (fun _ _ _ h => h) (Or.inl ⟨by rfl, ?_⟩) ?_ ?_
         rotate_left
         ·intro w'
          go_simp
          with_reducible rfl
         rotate_left
         ·simp only [Act.put, List.setIfInBounds_toArray, List.set_cons_zero, List.set_cons_succ, i64_w, i32_w]
          rfl
         refine take_ (i := 0) (N := some 25) (v := ?_) (a' := ?_) #[true, true, false, false, false, true, false, false] rfl rfl (take_ofW HT_.out HW_.out (by kernel_rfl)) (fun _ _ _ h => h) (Or.inl ⟨by rfl, ?_⟩) hHeld ?_ ?_
         rotate_left
         ·rintro w' ⟨s0, s1, s2, s3, s4, s5⟩
          go_simp
          with_reducible rfl
         rotate_left
         ·simp only [Act.put, List.setIfInBounds_toArray, List.set_cons_zero, List.set_cons_succ, i64_w, i32_w]
          rfl
         refine take_ (i := 2) (N := some 27) (v := ?_) (a' := ?_) #[true, true, true, false, false, true, false, false] rfl rfl (take_ofW HT_.out HW_.out (by kernel_rfl)) (fun _ _ _ h => h) (Or.inl ⟨by rfl, ?_⟩) hHeld ?_ ?_
         rotate_left
         ·rintro w' ⟨s0, s1, s2, s3, s4, s5⟩
          go_simp
          with_reducible rfl
         rotate_left
         ·simp only [Act.put, List.setIfInBounds_toArray, List.set_cons_zero, List.set_cons_succ, i64_w, i32_w]
          rfl
         refine take_ (i := 3) (N := some 28) (v := ?_) (a' := ?_) #[true, true, true, true, false, true, false, false] rfl rfl (take_ofW HT_.out HW_.out (by kernel_rfl)) (fun _ _ _ h => h) (Or.inl ⟨by rfl, ?_⟩) hHeld ?_ ?_
         rotate_left
         ·rintro w' ⟨s0, s1, s2, s3, s4, s5⟩
          go_simp
          with_reducible rfl
         rotate_left
         ·simp only [Act.put, List.setIfInBounds_toArray, List.set_cons_zero, List.set_cons_succ, i64_w, i32_w]
          rfl
         refine take_ (i := 6) (N := some 31) (v := ?_) (a' := ?_) #[true, true, true, true, false, true, true, false] rfl rfl (take_ofW HT_.out HW_.out (by kernel_rfl)) (fun _ _ _ h => h) (Or.inl ⟨by rfl, ?_⟩) hHeld ?_ ?_
         rotate_left
         ·rintro w' ⟨s0, s1, s2, s3, s4, s5⟩
          go_simp
          with_reducible rfl
         rotate_left
         ·simp only [Act.put, List.setIfInBounds_toArray, List.set_cons_zero, List.set_cons_succ, i64_w, i32_w]
          rfl
         refine one_ (i := 4) (N := some 29) #[true, true, true, true, true, true, true, false] rfl rfl (one_of HT_.out (by kernel_rfl)) (by decide) (fun K hK => ?_)
         refine goes_ Tryz.func41 (by kernel_rfl) rfl #[.agg #[.int .i64 x111000_2, .int .i64 x111001_2, .slice Ao31 x111002_2.length co31], .int .u8 (bt a0_1 0)] (by rfl) rfl rfl (by (try simp only [List.map_toArray, List.map_cons, List.map_nil]); first | done | rfl | (simp only [List.length_drop, List.length_take]; rfl)) ?_
         with_reducible refine (spec_tiPlace.calls k2 x111000_2 x111001_2 _ _ x111002_2 (bt a0_1 0) t111 _ ?side1 ?side2 A22.out).mono ?_
         (case side1 => repeat (first | exact (Kd.R_reads' HO_111002.out).2.2 | (with_reducible refine Kd.C_alloc ?_ _) | (with_reducible refine Kd.C_drewN ?_ _) | (with_reducible refine Kd.C_drew ?_)))
         (case side2 => exact (Kd.R_reads' HO_111002.out).2.1)
         rintro e w32 ⟨rfl, hb⟩
         refine ⟨_, rfl, ?_⟩
         have n0_ := Aside0.mk (Kd.R_below (rch HO_111002) hb)
         have n1_ := Aside0.mk (blk_below (g := gb101) (o := .cells #[.string a0_0, .string a0_1, .int .i64 a0_2] 38 (0, 0)) blc hb)
         have n2_ := Aside0.mk (blk_below (g := gb110) (o := .cells #[.int .i64 x111000_2, .int .i64 x111001_2, .slice Ao31 x111002_2.length co31] 45 (0, 0)) blc hb)
         have n3_ := Aside0.mk (below_step (bel HB) hb)
         clear HO_111002
         clear BK101
         clear BK110
         clear HB
         have HO_111002 := n0_
         have BK101 := n1_
         have BK110 := n2_
         have HB := n3_
         clear n0_ n1_ n2_ n3_
         (try clear hb)
         (try clear hb2)
         (try clear hk)
         (try clear hi)
         refine hK.out _ _ ⟨(blk_cell BK110.out 0).trans rfl, (blk_cell BK110.out 1).trans rfl, (blk_cell BK110.out 2).trans rfl, (blk_cell BK101.out 0).trans rfl, (blk_cell BK101.out 1).trans rfl, (blk_cell BK101.out 2).trans rfl⟩ (fun hHeld => ?_)
         clear hK K
         refine norm_ (a' := ?_) ?_ ?_
         rotate_left
         ·show Act.put _ (some 29) _ = _
          simp only [Act.put, List.setIfInBounds_toArray, List.set_cons_zero, List.set_cons_succ, i64_w, i32_w]
          rfl
         refine pure_ (i := 7) (N := some 32) (v := ?_) (a' := ?_) #[true, true, true, true, true, true, true, true] rfl rfl (any_of HT_.out (by kernel_rfl)) (fun _ _ _ h => h) (Or.inl ⟨by rfl, ?_⟩) ?_ ?_
         rotate_left
         ·intro w'
          go_simp
          with_reducible rfl
         rotate_left
         ·simp only [Act.put, List.setIfInBounds_toArray, List.set_cons_zero, List.set_cons_succ, i64_w, i32_w]
          rfl
         refine done_ (done_of HT_.out (by kernel_rfl)) ?_
         try go_wp2
         go_ret2
         exact ⟨by first | rfl | (simp [errW_none, errW_some] <;> rfl) | (simp [*, errW_none, errW_some] <;> rfl), bel HB⟩
        ·rw [if_neg c29] at H
         have c29b0 : (x8_2 == (a1.size : Int)) = false := beq_eq_false_iff_ne.mpr c29
         have c29b1 : (x8_2 != (a1.size : Int)) = true := bne_iff_ne.mpr c29
         by_cases c33 : 0 ≤ x8_2
         ·rw [if_pos c33] at H
          have c33b0 := eq_true c33
          have c33b1 : decide (0 ≤ x8_2) = true := decide_eq_true c33
          clear c33
          by_cases c34 : x8_2 ≤ (wrap64 (x8_2 + 1))
          ·rw [if_pos c34] at H
           have c34b0 := eq_true c34
           have c34b1 : decide (x8_2 ≤ (wrap64 (x8_2 + 1))) = true := decide_eq_true c34
           by_cases c35 : (wrap64 (x8_2 + 1)) ≤ (a1.size : Int)
           ·rw [if_pos c35] at H
            have c35b0 := eq_true c35
            have c35b1 : decide ((wrap64 (x8_2 + 1)) ≤ (a1.size : Int)) = true := decide_eq_true c35
            replace H := Option.bind_eq_some_iff.mp H
            obtain ⟨t112, A360, H⟩ := H
            replace H : ((spec_tiTilt.f k2 x111000_2 x111001_2 x111002_2 t112).bind fun bt113 => (spec_FirstSolved.l0 k2 a1 (wrap64 (x8_2 + 1)) a0_0 a0_1 a0_2 bt113.1 bt113.2.1 bt113.2.2)) = some (r1, r2) := H
            have A36 := Aside0.mk A360
            clear A360
            replace H := Option.bind_eq_some_iff.mp H
            obtain ⟨⟨t113, t114, t115⟩, A370, H⟩ := H
            replace H : (spec_FirstSolved.l0 k2 a1 (wrap64 (x8_2 + 1)) a0_0 a0_1 a0_2 t113 t114 t115) = some (r1, r2) := H
            have A37 := Aside0.mk A370
            clear A370
            have H' := Aside0.mk H
            clear H
            try go_wp2
            have n0_ := Aside0.mk (Kd.R_drew HO_111002.out)
            have n1_ := Aside0.mk (blk_drew BK101.out)
            have n2_ := Aside0.mk (blk_drew BK110.out)
            have n3_ := Aside0.mk (below_drew1 HB.out)
            clear HO_111002
            clear BK101
            clear BK110
            clear HB
            have HO_111002 := n0_
            have BK101 := n1_
            have BK110 := n2_
            have HB := n3_
            clear n0_ n1_ n2_ n3_
            have p21 : 0 ≤ (0 : Int) := (by omega)
            have q21 : 0 < a0_1.size := (by have : (0 : Int) < (a0_1.size : Int) := of_decide_eq_true (by first | (with_reducible assumption) | assumption); omega)
            have hx21 : ∀ h : 0 < a0_1.size, ((a0_1[0]'h).toNat : Int) = bt a0_1 0 := bt_at a0_1 0
            clear p21
            have qi21 : (0 < (a0_1.size : Int)) = True := eq_true (of_decide_eq_true (by first | (with_reducible assumption) | assumption))
            replace q21 := eq_true q21
            obtain ⟨Ao39, co39, eo39⟩ := Kd.R_slice HO_111002.out
            (first | subst eo39 | (injection eo39 with f1_ f2_ f3_; have f4_ := f1_.symm; have f5_ := f3_.symm; clear f1_ f2_ f3_; subst f4_; subst f5_))
            refine start_ (n := 8) (S := fun w' => w'.cell? ⟨gb110, 0, none⟩ = some (.int .i64 x111000_2) ∧ w'.cell? ⟨gb110, 1, none⟩ = some (.int .i64 x111001_2) ∧ w'.cell? ⟨gb110, 2, none⟩ = some (.slice Ao39 x111002_2.length co39) ∧ w'.cell? ⟨gb101, 0, none⟩ = some (.string a0_0) ∧ w'.cell? ⟨gb101, 1, none⟩ = some (.string a0_1) ∧ w'.cell? ⟨gb101, 2, none⟩ = some (.int .i64 a0_2)) (ds := []) #[false, false, false, false, false, false, false, false] (by kernel_rfl) rfl rfl ⟨(blk_cell BK110.out 0).trans rfl, (blk_cell BK110.out 1).trans rfl, (blk_cell BK110.out 2).trans rfl, (blk_cell BK101.out 0).trans rfl, (blk_cell BK101.out 1).trans rfl, (blk_cell BK101.out 2).trans rfl⟩ (fun hHeld => ?_); refine with_tabW spec_FirstSolved.tab6 spec_FirstSolved.bits6 (fun HT_ HW_ => ?_)
            generalize wr.drew = w38 at HO_111002 BK101 BK110 HB hHeld ⊢
            refine pure_ (i := 1) (N := some 26) (v := ?_) (a' := ?_) #[false, true, false, false, false, false, false, false] rfl rfl (any_of HT_.out (by kernel_rfl)) (fun _ _ _ h => h) (Or.inl ⟨by rfl, ?_⟩) ?_ ?_
            rotate_left
            ·intro w'
             go_simp
             with_reducible rfl
            rotate_left
            ·simp only [Act.put, List.setIfInBounds_toArray, List.set_cons_zero, List.set_cons_succ, i64_w, i32_w]
             rfl
            refine pure_ (i := 5) (N := some 30) (v := ?_) (a' := ?_) #[false, true, false, false, false, true, false, false] rfl rfl (any_of HT_.out (by kernel_rfl)) (fun _ _ _ h => h) (Or.inl ⟨by rfl, ?_⟩) ?_ ?_
            rotate_left
            ·intro w'
             go_simp
             with_reducible rfl
            rotate_left
            ·simp only [Act.put, List.setIfInBounds_toArray, List.set_cons_zero, List.set_cons_succ, i64_w, i32_w]
             rfl
            refine take_ (i := 0) (N := some 25) (v := ?_) (a' := ?_) #[true, true, false, false, false, true, false, false] rfl rfl (take_ofW HT_.out HW_.out (by kernel_rfl)) (fun _ _ _ h => h) (Or.inl ⟨by rfl, ?_⟩) hHeld ?_ ?_
            rotate_left
            ·rintro w' ⟨s0, s1, s2, s3, s4, s5⟩
             go_simp
             with_reducible rfl
            rotate_left
            ·simp only [Act.put, List.setIfInBounds_toArray, List.set_cons_zero, List.set_cons_succ, i64_w, i32_w]
             rfl
            refine take_ (i := 2) (N := some 27) (v := ?_) (a' := ?_) #[true, true, true, false, false, true, false, false] rfl rfl (take_ofW HT_.out HW_.out (by kernel_rfl)) (fun _ _ _ h => h) (Or.inl ⟨by rfl, ?_⟩) hHeld ?_ ?_
            rotate_left
            ·rintro w' ⟨s0, s1, s2, s3, s4, s5⟩
             go_simp
             with_reducible rfl
            rotate_left
            ·simp only [Act.put, List.setIfInBounds_toArray, List.set_cons_zero, List.set_cons_succ, i64_w, i32_w]
             rfl
            refine take_ (i := 3) (N := some 28) (v := ?_) (a' := ?_) #[true, true, true, true, false, true, false, false] rfl rfl (take_ofW HT_.out HW_.out (by kernel_rfl)) (fun _ _ _ h => h) (Or.inl ⟨by rfl, ?_⟩) hHeld ?_ ?_
            rotate_left
            ·rintro w' ⟨s0, s1, s2, s3, s4, s5⟩
             go_simp
             with_reducible rfl
            rotate_left
            ·simp only [Act.put, List.setIfInBounds_toArray, List.set_cons_zero, List.set_cons_succ, i64_w, i32_w]
             rfl
            refine take_ (i := 6) (N := some 31) (v := ?_) (a' := ?_) #[true, true, true, true, false, true, true, false] rfl rfl (take_ofW HT_.out HW_.out (by kernel_rfl)) (fun _ _ _ h => h) (Or.inl ⟨by rfl, ?_⟩) hHeld ?_ ?_
            rotate_left
            ·rintro w' ⟨s0, s1, s2, s3, s4, s5⟩
             go_simp
             with_reducible rfl
            rotate_left
            ·simp only [Act.put, List.setIfInBounds_toArray, List.set_cons_zero, List.set_cons_succ, i64_w, i32_w]
             rfl
            refine one_ (i := 4) (N := some 29) #[true, true, true, true, true, true, true, false] rfl rfl (one_of HT_.out (by kernel_rfl)) (by decide) (fun K hK => ?_)
            refine goes_ Tryz.func41 (by kernel_rfl) rfl #[.agg #[.int .i64 x111000_2, .int .i64 x111001_2, .slice Ao39 x111002_2.length co39], .int .u8 (bt a0_1 0)] (by rfl) rfl rfl (by (try simp only [List.map_toArray, List.map_cons, List.map_nil]); first | done | rfl | (simp only [List.length_drop, List.length_take]; rfl)) ?_
            with_reducible refine (spec_tiPlace.calls k2 x111000_2 x111001_2 _ _ x111002_2 (bt a0_1 0) t111 _ ?side1 ?side2 A22.out).mono ?_
            (case side1 => repeat (first | exact (Kd.R_reads' HO_111002.out).2.2 | (with_reducible refine Kd.C_alloc ?_ _) | (with_reducible refine Kd.C_drewN ?_ _) | (with_reducible refine Kd.C_drew ?_)))
            (case side2 => exact (Kd.R_reads' HO_111002.out).2.1)
            rintro e w40 ⟨rfl, hb⟩
            refine ⟨_, rfl, ?_⟩
            have n0_ := Aside0.mk (Kd.R_below (rch HO_111002) hb)
            have n1_ := Aside0.mk (blk_below (g := gb101) (o := .cells #[.string a0_0, .string a0_1, .int .i64 a0_2] 38 (0, 0)) blc hb)
            have n2_ := Aside0.mk (blk_below (g := gb110) (o := .cells #[.int .i64 x111000_2, .int .i64 x111001_2, .slice Ao39 x111002_2.length co39] 45 (0, 0)) blc hb)
            have n3_ := Aside0.mk (below_step (bel HB) hb)
            clear HO_111002
            clear BK101
            clear BK110
            clear HB
            have HO_111002 := n0_
            have BK101 := n1_
            have BK110 := n2_
            have HB := n3_
            clear n0_ n1_ n2_ n3_
            (try clear hb)
            (try clear hb2)
            (try clear hk)
            (try clear hi)
            refine hK.out _ _ ⟨(blk_cell BK110.out 0).trans rfl, (blk_cell BK110.out 1).trans rfl, (blk_cell BK110.out 2).trans rfl, (blk_cell BK101.out 0).trans rfl, (blk_cell BK101.out 1).trans rfl, (blk_cell BK101.out 2).trans rfl⟩ (fun hHeld => ?_)
            clear hK K
            refine norm_ (a' := ?_) ?_ ?_
            rotate_left
            ·show Act.put _ (some 29) _ = _
             simp only [Act.put, List.setIfInBounds_toArray, List.set_cons_zero, List.set_cons_succ, i64_w, i32_w]
             rfl
            refine pure_ (i := 7) (N := some 32) (v := ?_) (a' := ?_) #[true, true, true, true, true, true, true, true] rfl rfl (any_of HT_.out (by kernel_rfl)) (fun _ _ _ h => h) (Or.inl ⟨by rfl, ?_⟩) ?_ ?_
            rotate_left
            ·intro w'
             go_simp
             with_reducible rfl
            rotate_left
            ·simp only [Act.put, List.setIfInBounds_toArray, List.set_cons_zero, List.set_cons_succ, i64_w, i32_w]
             rfl
            refine done_ (done_of HT_.out (by kernel_rfl)) ?_
            try go_wp2
            have n0_ := Aside0.mk (Kd.R_drew HO_111002.out)
            have n1_ := Aside0.mk (blk_drew BK101.out)
            have n2_ := Aside0.mk (blk_drew BK110.out)
            have n3_ := Aside0.mk (below_drew1 HB.out)
            clear HO_111002
            clear BK101
            clear BK110
            clear HB
            have HO_111002 := n0_
            have BK101 := n1_
            have BK110 := n2_
            have HB := n3_
            clear n0_ n1_ n2_ n3_
            refine start_ (n := 9) (S := fun w' => w'.cell? ⟨gb110, 0, none⟩ = some (.int .i64 x111000_2) ∧ w'.cell? ⟨gb110, 1, none⟩ = some (.int .i64 x111001_2) ∧ w'.cell? ⟨gb110, 2, none⟩ = some (.slice Ao39 x111002_2.length co39)) (ds := [8]) #[false, false, false, false, false, false, false, false, false] (by kernel_rfl) rfl rfl ⟨(blk_cell BK110.out 0).trans rfl, (blk_cell BK110.out 1).trans rfl, (blk_cell BK110.out 2).trans rfl⟩ (fun hHeld => ?_); refine with_tabW spec_FirstSolved.tab10 spec_FirstSolved.bits10 (fun HT_ HW_ => ?_)
            generalize w40.drew = w41 at HO_111002 BK101 BK110 HB hHeld ⊢
            refine pure_ (i := 1) (N := some 41) (v := ?_) (a' := ?_) #[false, true, false, false, false, false, false, false, false] rfl rfl (any_of HT_.out (by kernel_rfl)) (fun _ _ _ h => h) (Or.inl ⟨by rfl, ?_⟩) ?_ ?_
            rotate_left
            ·intro w'
             go_simp
             with_reducible rfl
            rotate_left
            ·simp only [Act.put, List.setIfInBounds_toArray, List.set_cons_zero, List.set_cons_succ, i64_w, i32_w]
             rfl
            refine pure_ (i := 2) (N := some 42) (v := ?_) (a' := ?_) #[false, true, true, false, false, false, false, false, false] rfl rfl (any_of HT_.out (by kernel_rfl)) (fun _ _ _ h => h) (Or.inl ⟨by rfl, ?_⟩) ?_ ?_
            rotate_left
            ·intro w'
             go_simp
             with_reducible rfl
            rotate_left
            ·simp only [Act.put, List.setIfInBounds_toArray, List.set_cons_zero, List.set_cons_succ, i64_w, i32_w]
             rfl
            refine pure_ (i := 3) (N := some 43) (v := ?_) (a' := ?_) #[false, true, true, true, false, false, false, false, false] rfl rfl (any_of HT_.out (by kernel_rfl)) (fun _ _ _ h => h) (Or.inl ⟨by rfl, ?_⟩) ?_ ?_
            rotate_left
            ·intro w'
             go_simp
             with_reducible rfl
            rotate_left
            ·simp only [Act.put, List.setIfInBounds_toArray, List.set_cons_zero, List.set_cons_succ, i64_w, i32_w]
             rfl
            refine pure_ (i := 4) (N := some 44) (v := ?_) (a' := ?_) #[false, true, true, true, true, false, false, false, false] rfl rfl (any_of HT_.out (by kernel_rfl)) (fun _ _ _ h => h) (Or.inl ⟨by rfl, ?_⟩) ?_ ?_
            rotate_left
            ·intro w'
             go_simp
             with_reducible rfl
            rotate_left
            ·simp only [Act.put, List.setIfInBounds_toArray, List.set_cons_zero, List.set_cons_succ, i64_w, i32_w]
             rfl
            refine pure_ (i := 5) (N := some 45) (v := ?_) (a' := ?_) #[false, true, true, true, true, true, false, false, false] rfl rfl (any_of HT_.out (by kernel_rfl)) (fun _ _ _ h => h) (Or.inl ⟨by rfl, ?_⟩) ?_ ?_
            rotate_left
            ·intro w'
             go_simp
             with_reducible rfl
            rotate_left
            ·simp only [Act.put, List.setIfInBounds_toArray, List.set_cons_zero, List.set_cons_succ, i64_w, i32_w]
             rfl
            refine take_ (i := 0) (N := some 40) (v := ?_) (a' := ?_) #[true, true, true, true, true, true, false, false, false] rfl rfl (take_ofW HT_.out HW_.out (by kernel_rfl)) (fun _ _ _ h => h) (Or.inl ⟨by rfl, ?_⟩) hHeld ?_ ?_
            rotate_left
            ·rintro w' ⟨s0, s1, s2⟩
             go_simp
             with_reducible rfl
            rotate_left
            ·simp only [Act.put, List.setIfInBounds_toArray, List.set_cons_zero, List.set_cons_succ, i64_w, i32_w]
             rfl
            refine one_ (i := 6) (N := some 46) #[true, true, true, true, true, true, true, false, false] rfl rfl (one_of HT_.out (by kernel_rfl)) (by decide) (fun K hK => ?_)
            refine goes_ Tryz.func42 (by kernel_rfl) rfl #[.string (a1.extract (x8_2 : Int).toNat ((wrap64 (x8_2 + 1)) : Int).toNat)] (by rfl) rfl rfl (by (try simp only [List.map_toArray, List.map_cons, List.map_nil]); first | done | rfl | (simp only [List.length_drop, List.length_take]; rfl)) ?_
            with_reducible refine (spec_tiDir.calls k2 (a1.extract (x8_2 : Int).toNat ((wrap64 (x8_2 + 1)) : Int).toNat) t112 _ A36.out).mono ?_
            rintro e w' ⟨rfl, ⟨nd, rfl⟩⟩
            refine ⟨_, rfl, ?_⟩
            refine hK.out _ _ ⟨(blk_cell BK110.out 0).trans rfl, (blk_cell BK110.out 1).trans rfl, (blk_cell BK110.out 2).trans rfl⟩ (fun hHeld => ?_)
            clear hK K
            refine norm_ (a' := ?_) ?_ ?_
            rotate_left
            ·show Act.put _ (some 46) _ = _
             simp only [Act.put, List.setIfInBounds_toArray, List.set_cons_zero, List.set_cons_succ, i64_w, i32_w]
             rfl
            refine one_ (i := 7) (N := some 47) #[true, true, true, true, true, true, true, true, false] rfl rfl (one_of HT_.out (by kernel_rfl)) (by decide) (fun K hK => ?_)
            refine goes_ Tryz.func28 (by kernel_rfl) rfl #[.agg #[.int .i64 x111000_2, .int .i64 x111001_2, .slice Ao39 x111002_2.length co39], .int .i64 t112] (by rfl) rfl rfl (by (try simp only [List.map_toArray, List.map_cons, List.map_nil]); first | done | rfl | (simp only [List.length_drop, List.length_take]; rfl)) ?_
            with_reducible refine (spec_tiTilt.calls k2 x111000_2 x111001_2 _ _ x111002_2 t112 t113 t114 t115 _ ?side1 ?side2 A37.out).mono ?_
            (case side1 => repeat (first | exact (Kd.R_reads' HO_111002.out).2.2 | (with_reducible refine Kd.C_alloc ?_ _) | (with_reducible refine Kd.C_drewN ?_ _) | (with_reducible refine Kd.C_drew ?_)))
            (case side2 => exact (Kd.R_reads' HO_111002.out).2.1)
            rintro e w42 ⟨v116, rfl, ho0, hb⟩
            refine ⟨_, rfl, ?_⟩
            have n0_ := Aside0.mk (Kd.R_elder' (rch HO_111002) (Kd.R_base ho0) hb)
            have n1_ := Aside0.mk (Kd.R_lower (Kd.R_new' ho0 (Kd.R_lt (rch HO_111002))) (below_size (bel HB)))
            have n2_ := Aside0.mk (blk_below (g := gb101) (o := .cells #[.string a0_0, .string a0_1, .int .i64 a0_2] 38 (0, 0)) blc hb)
            have n3_ := Aside0.mk (blk_below (g := gb110) (o := .cells #[.int .i64 x111000_2, .int .i64 x111001_2, .slice Ao39 x111002_2.length co39] 45 (0, 0)) blc hb)
            have n4_ := Aside0.mk (below_step (bel HB) hb)
            clear HO_111002
            clear BK101
            clear BK110
            clear HB
            have HO_111002 := n0_
            have HO117 := n1_
            have BK101 := n2_
            have BK110 := n3_
            have HB := n4_
            clear n0_ n1_ n2_ n3_ n4_
            (try clear hb)
            (try clear hb2)
            (try clear hk)
            (try clear hi)
            (try clear ho0)
            obtain ⟨Ao45, co45, eo45⟩ := Kd.R_slice HO117.out
            (first | subst eo45 | (injection eo45 with f1_ f2_ f3_; have f4_ := f1_.symm; have f5_ := f3_.symm; clear f1_ f2_ f3_; subst f4_; subst f5_))
            refine hK.out _ _ ⟨(blk_cell BK110.out 0).trans rfl, (blk_cell BK110.out 1).trans rfl, (blk_cell BK110.out 2).trans rfl⟩ (fun hHeld => ?_)
            clear hK K
            refine norm_ (a' := ?_) ?_ ?_
            rotate_left
            ·show Act.put _ (some 47) _ = _
             simp only [Act.put, List.setIfInBounds_toArray, List.set_cons_zero, List.set_cons_succ, i64_w, i32_w]
             rfl
            refine last_ (i := 8) (N := none) #[true, true, true, true, true, true, true, true, true] rfl rfl (one_of HT_.out (by kernel_rfl)) (by decide) (fun K hK => ?_)
            have hs43 : w42.cell? ⟨gb110, 0, none⟩ = some (.int .i64 x111000_2) := (blk_cell BK110.out 0).trans rfl
            have hfs43 := blk_frozen BK110.out 0
            have hns43_0 := NB101_110.out
            have hms43_0 := NB110_101.out
            have hs44 : w42.cell? ⟨gb110, 1, none⟩ = some (.int .i64 x111001_2) := (blk_cell BK110.out 1).trans rfl
            have hfs44 := blk_frozen BK110.out 1
            have hns44_0 := NB101_110.out
            have hms44_0 := NB110_101.out
            have hs46 : w42.cell? ⟨gb110, 2, none⟩ = some (.slice Ao39 x111002_2.length co39) := (blk_cell BK110.out 2).trans rfl
            have hfs46 := blk_frozen BK110.out 2
            have hns46_0 := NB101_110.out
            have hms46_0 := NB110_101.out
            refine skip_ (w1 := ?_) (by rfl) rfl ?_ ?_
            rotate_left
            ·go_simp
             rfl
            refine hK.out _ _ ?_
            clear hK K
            refine done_ (done_of HT_.out (by kernel_rfl)) ?_
            try go_wp2
            go_roundg k2
            case measure => have := HJ2.out; have := HK2.out; omega
            case rel => exact ⟨(wrap64 (x8_2 + 1)), (t113), (t114), (t115), (.slice Ao45 t115.length co45), (by first | rfl | (simp; done) | (simp [*]; done)), H', ⟨by have := HJ2.out; have := HK2.out; omega⟩, ⟨by (with_reducible repeat (first | apply Kd.R_alloc | apply Kd.R_drewN | apply Kd.R_drew)); exact Kd.R_mono (Kd.R_far (p := ⟨gb110, 2, none⟩) (Kd.R_far (p := ⟨gb110, 1, none⟩) (Kd.R_far (p := ⟨gb110, 0, none⟩) (Kd.R_types HO117.out BK110.out (by decide)) (fun _ hk => hk.2) (.int .i64 t113)) (fun _ hk => hk.2) (.int .i64 t114)) (fun _ hk => hk.2) (.slice Ao45 t115.length co45)) (fun _ hk => trivial)⟩, ⟨by (with_reducible repeat (first | refine blk_drewN ?_ _ | refine blk_drew ?_ | refine blk_alloc ?_ _)); refine blk_far ?_ NB101_110.out _; (with_reducible repeat (first | refine blk_drewN ?_ _ | refine blk_drew ?_ | refine blk_alloc ?_ _)); refine blk_far ?_ NB101_110.out _; (with_reducible repeat (first | refine blk_drewN ?_ _ | refine blk_drew ?_ | refine blk_alloc ?_ _)); refine blk_far ?_ NB101_110.out _; exact blc⟩, ⟨by (with_reducible repeat (first | refine blk_drewN ?_ _ | refine blk_drew ?_ | refine blk_alloc ?_ _)); refine blk_put (cs := #[.int .i64 t113, .int .i64 t114, .slice Ao39 x111002_2.length co39]) ?_ 2 _ rfl; (with_reducible repeat (first | refine blk_drewN ?_ _ | refine blk_drew ?_ | refine blk_alloc ?_ _)); refine blk_put (cs := #[.int .i64 t113, .int .i64 x111001_2, .slice Ao39 x111002_2.length co39]) ?_ 1 _ rfl; (with_reducible repeat (first | refine blk_drewN ?_ _ | refine blk_drew ?_ | refine blk_alloc ?_ _)); refine blk_put (cs := #[.int .i64 x111000_2, .int .i64 x111001_2, .slice Ao39 x111002_2.length co39]) ?_ 0 _ rfl; exact blc⟩, ⟨bel HB⟩⟩
           ·rw [if_neg c35] at H
            exact absurd H (by simp)
          ·rw [if_neg c34] at H
           exact absurd H (by simp)
         ·rw [if_neg c33] at H
          exact absurd H (by simp)
      ·rw [if_neg c20] at H
       exact absurd H (by simp)
mutual
def impl_FirstSolved.j0 : Nat → ByteArray → Bool → ByteArray → ByteArray → Int → Option (ByteArray × Bool)
 | 0, _, _, _, _, _ => none
 | k + 1, x1, x14, x102000, x102001, x102002 => if x14 = true then (some ((⟨#[]⟩ : ByteArray), false)) else (impl_FirstSolved.l0 k x1 (wrap64 ((x1.size : Int) + 1)) 0 x102000 x102001 x102002)
def impl_FirstSolved.l0 : Nat → ByteArray → Int → Int → ByteArray → ByteArray → Int → Option (ByteArray × Bool)
 | 0, _, _, _, _, _, _ => none
 | k + 1, x1, x17, x18, x102000, x102001, x102002 => if x18 < x17 then (if 0 ≤ x18 then (if x18 ≤ (x1.size : Int) then ((impl_Puzzle_solves.f k x102000 x102001 x102002 (x1.extract 0 (x18 : Int).toNat)).bind fun t104 => (if t104 = true then (some (x1.extract 0 (x18 : Int).toNat, true)) else (impl_FirstSolved.l0 k x1 x17 (wrap64 (x18 + 1)) x102000 x102001 x102002))) else (none)) else (none)) else (some ((⟨#[]⟩ : ByteArray), false))
end
def impl_FirstSolved.f (k : Nat) (a0_0 : ByteArray) (a0_1 : ByteArray) (a0_2 : Int) (a1 : ByteArray) : Option (ByteArray × Bool) := (impl_IsPuzzle.f k a0_0 a0_1 a0_2).bind fun t102 => (if t102 = true then ((impl_IsWord.f a1).bind fun t103 => (impl_FirstSolved.j0 k a1 (!t103) a0_0 a0_1 a0_2)) else (impl_FirstSolved.j0 k a1 true a0_0 a0_1 a0_2))
set_option maxHeartbeats 8000000 in
set_option maxRecDepth 100000 in
theorem impl_FirstSolved.calls (k : Nat) (a0_0 : ByteArray) (a0_1 : ByteArray) (a0_2 : Int) (a1 : ByteArray) (r1 : ByteArray) (r2 : Bool) (w : World) (hG : GoodW w) (h : impl_FirstSolved.f k a0_0 a0_1 a0_2 a1 = some (r1, r2)) :
  Calls Tryz.prog 25 #[.agg #[.string a0_0, .string a0_1, .int .i64 a0_2], .string a1] w fun e w' => e = .returned (.tuple #[.string r1, .bool r2]) ∧ Below w.heap.size w w' := by
 have hu38 := Tryz.underlying38
 have HG := Aside0.mk hG
 clear hG
 have HB := Aside0.mk (Below.refl w.heap.size w)
 have H : ((impl_IsPuzzle.f k a0_0 a0_1 a0_2).bind fun t102 => (if t102 = true then ((impl_IsWord.f a1).bind fun t103 => (impl_FirstSolved.j0 k a1 (!t103) a0_0 a0_1 a0_2)) else (impl_FirstSolved.j0 k a1 true a0_0 a0_1 a0_2))) = some (r1, r2) := h
 clear h
 have HC3 := Aside0.mk H
 clear H
 go_enter Tryz.func25, Tryz.ntmps25
 go_upto_region 1 with (first | ((with_reducible refine gate_dst (N := 2) rfl ?_); refine boxE (N := 2) (cs := #[.string a0_0, .string a0_1, .int .i64 a0_2]) (t := 38) ?_; intro gb101 hg w4 hbox hb; have n0_ := Aside0.mk (below_step (bel HB) hb); have n1_ := Aside0.mk (hbox); have n2_ := Aside0.mk (gsz hg (bel HB)); have n3_ := Aside0.mk (gsz hg (bel HB)); clear HB; have HB := n0_; have BK101 := n1_; have GW101 := n2_; have GE101 := n3_; clear n0_ n1_ n2_ n3_; clear hb hbox hg))
 (try simp only [Act.put, List.setIfInBounds_toArray, List.set_cons_zero, List.set_cons_succ])
 go_cut [14] (fun v14 wc => ∃ (kq : Nat) (x14_2 : Bool), v14 = .bool x14_2 ∧ Aside0 (impl_FirstSolved.j0 kq a1 x14_2 a0_0 a0_1 a0_2 = some (r1, r2)) ∧ Aside0 (kq ≤ k) ∧ Aside0 (wc.heap[gb101]? = some (.cells #[.string a0_0, .string a0_1, .int .i64 a0_2] 38 (0, 0))) ∧ Aside0 (Below w.heap.size w wc))
 case first =>
  have H := HC3.out
  clear HC3
  replace H := Option.bind_eq_some_iff.mp H
  obtain ⟨t102, A50, H⟩ := H
  replace H : (if t102 = true then ((impl_IsWord.f a1).bind fun t103 => (impl_FirstSolved.j0 k a1 (!t103) a0_0 a0_1 a0_2)) else (impl_FirstSolved.j0 k a1 true a0_0 a0_1 a0_2)) = some (r1, r2) := H
  have A5 := Aside0.mk A50
  clear A50
  by_cases c6 : t102 = true
  ·subst c6
   have H1 : ((impl_IsWord.f a1).bind fun t103 => (impl_FirstSolved.j0 k a1 (!t103) a0_0 a0_1 a0_2)) = some (r1, r2) := by rw [if_pos rfl] at H; exact H
   clear H
   have H := H1
   clear H1
   replace H := Option.bind_eq_some_iff.mp H
   obtain ⟨t103, A70, H⟩ := H
   replace H : (impl_FirstSolved.j0 k a1 (!t103) a0_0 a0_1 a0_2) = some (r1, r2) := H
   have A7 := Aside0.mk A70
   clear A70
   have H' := Aside0.mk H
   clear H
   have hcz8_0 : w4.cell? ⟨gb101, 0, none⟩ = some (.string a0_0) := (blk_cell BK101.out 0).trans rfl
   have hcz8_1 : w4.cell? ⟨gb101, 1, none⟩ = some (.string a0_1) := (blk_cell BK101.out 1).trans rfl
   have hcz8_2 : w4.cell? ⟨gb101, 2, none⟩ = some (.int .i64 a0_2) := (blk_cell BK101.out 2).trans rfl
   have hfz8_0 := blk_frozen BK101.out 0
   have hfz8_1 := blk_frozen BK101.out 1
   have hfz8_2 := blk_frozen BK101.out 2
   go_wp2_with (first | ((with_reducible refine gate_callee (f := 54) rfl ?_); refine gcall (some 8) Tryz.func54 #[.agg #[.string a0_0, .string a0_1, .int .i64 a0_2]] rfl ?_; (with_reducible refine (impl_IsPuzzle.calls k a0_0 a0_1 a0_2 true _ ?side1 A5.out).mono ?_); (case side1 => (refine GoodW.below HG.out ?_); exact bel HB); rintro e w9 ⟨rfl, hb⟩; refine ⟨_, rfl, ?_⟩; have n0_ := Aside0.mk (blk_below (g := gb101) (o := .cells #[.string a0_0, .string a0_1, .int .i64 a0_2] 38 (0, 0)) blc hb); have n1_ := Aside0.mk (below_step (bel HB) hb); clear BK101; clear HB; have BK101 := n0_; have HB := n1_; clear n0_ n1_; (try clear hb); (try clear hb2); (try clear hk); (try clear hi)) | (go_at_call 44; (with_reducible refine (impl_IsWord.calls a1 t103 _ A7.out).mono ?_); rintro e w10 ⟨rfl, hb⟩; have n0_ := Aside0.mk (blk_below (g := gb101) (o := .cells #[.string a0_0, .string a0_1, .int .i64 a0_2] 38 (0, 0)) blc hb); have n1_ := Aside0.mk (below_step (bel HB) hb); clear BK101; clear HB; have BK101 := n0_; have HB := n1_; clear n0_ n1_; (try clear hb); (try clear hb2); (try clear hk); (try clear hi)))
   go_meet
   case rel => exact ⟨_, (!t103), (by first | rfl | (simp; done) | (simp [*]; done)), H', ⟨by first | omega | exact Nat.le_refl _⟩, ⟨blc⟩, ⟨bel HB⟩⟩
  ·replace c6 := Bool.eq_false_iff.mpr c6
   subst c6
   have H1 : (impl_FirstSolved.j0 k a1 true a0_0 a0_1 a0_2) = some (r1, r2) := by rw [if_neg (show ¬ (false = true) by decide)] at H; exact H
   clear H
   have H := H1
   clear H1
   have H' := Aside0.mk H
   clear H
   have hcz11_0 : w4.cell? ⟨gb101, 0, none⟩ = some (.string a0_0) := (blk_cell BK101.out 0).trans rfl
   have hcz11_1 : w4.cell? ⟨gb101, 1, none⟩ = some (.string a0_1) := (blk_cell BK101.out 1).trans rfl
   have hcz11_2 : w4.cell? ⟨gb101, 2, none⟩ = some (.int .i64 a0_2) := (blk_cell BK101.out 2).trans rfl
   have hfz11_0 := blk_frozen BK101.out 0
   have hfz11_1 := blk_frozen BK101.out 1
   have hfz11_2 := blk_frozen BK101.out 2
   go_wp2_with (first | ((with_reducible refine gate_callee (f := 54) rfl ?_); refine gcall (some 8) Tryz.func54 #[.agg #[.string a0_0, .string a0_1, .int .i64 a0_2]] rfl ?_; (with_reducible refine (impl_IsPuzzle.calls k a0_0 a0_1 a0_2 false _ ?side1 A5.out).mono ?_); (case side1 => (refine GoodW.below HG.out ?_); exact bel HB); rintro e w12 ⟨rfl, hb⟩; refine ⟨_, rfl, ?_⟩; have n0_ := Aside0.mk (blk_below (g := gb101) (o := .cells #[.string a0_0, .string a0_1, .int .i64 a0_2] 38 (0, 0)) blc hb); have n1_ := Aside0.mk (below_step (bel HB) hb); clear BK101; clear HB; have BK101 := n0_; have HB := n1_; clear n0_ n1_; (try clear hb); (try clear hb2); (try clear hk); (try clear hi)))
   go_meet
   case rel => exact ⟨_, (true), (by first | rfl | (simp; done) | (simp [*]; done)), H', ⟨by first | omega | exact Nat.le_refl _⟩, ⟨blc⟩, ⟨bel HB⟩⟩
 case rest =>
  clear HC3
  try clear c2
  try clear p2
  try clear c5
  try clear c6
  try clear hcz11_0
  try clear hcz11_1
  try clear hcz11_2
  try clear hcz8_0
  try clear hcz8_1
  try clear hcz8_2
  try clear hfz11_0
  try clear hfz11_1
  try clear hfz11_2
  try clear hfz8_0
  try clear hfz8_1
  try clear hfz8_2
  obtain ⟨kq, x14_2, rfl, HA, HJ2, BK101, HB⟩ := hcut
  cases kq with
  | zero => exact absurd HA.out (by simp [impl_FirstSolved.j0])
  | succ kj2 =>
   have H := HA.out
   clear HA
   simp only [impl_FirstSolved.j0] at H
   by_cases c13 : x14_2 = true
   ·subst c13
    have H1 : (some ((⟨#[]⟩ : ByteArray), false)) = some (r1, r2) := by rw [if_pos rfl] at H; exact H
    clear H
    have H := H1
    clear H1
    simp only [Option.some.injEq, Prod.mk.injEq] at H
    obtain ⟨rfl, rfl⟩ := H
    go_wp2
    go_ret2
    exact ⟨by first | rfl | (simp [errW_none, errW_some] <;> rfl) | (simp [*, errW_none, errW_some] <;> rfl), bel HB⟩
   ·replace c13 := Bool.eq_false_iff.mpr c13
    subst c13
    have H1 : (impl_FirstSolved.l0 kj2 a1 (wrap64 ((a1.size : Int) + 1)) 0 a0_0 a0_1 a0_2) = some (r1, r2) := by rw [if_neg (show ¬ (false = true) by decide)] at H; exact H
    clear H
    have H := H1
    clear H1
    have H' := Aside0.mk H
    clear H
    go_wp2
    go_loopg [18] kj2 (fun kq v18 w' => ∃ (x18_2 : Int), v18 = .int .i64 x18_2 ∧ Aside0 (impl_FirstSolved.l0 kq a1 (wrap64 ((a1.size : Int) + 1)) x18_2 a0_0 a0_1 a0_2 = some (r1, r2)) ∧ Aside0 (kq ≤ kj2) ∧ Aside0 (w'.heap[gb101]? = some (.cells #[.string a0_0, .string a0_1, .int .i64 a0_2] 38 (0, 0))) ∧ Aside0 (Below w.heap.size w w'))
    case atStart => exact ⟨(0), (by first | rfl | (simp; done) | (simp [*]; done)), H', ⟨Nat.le_refl _⟩, ⟨blc⟩, ⟨bel HB⟩⟩
    case round =>
     clear H'
     try clear c1
     try clear c2
     try clear p2
     try clear c5
     try clear c6
     try clear p6
     try clear c13
     try clear hcz11_0
     try clear hcz11_1
     try clear hcz11_2
     try clear hcz8_0
     try clear hcz8_1
     try clear hcz8_2
     try clear hfz11_0
     try clear hfz11_1
     try clear hfz11_2
     try clear hfz8_0
     try clear hfz8_1
     try clear hfz8_2
     try clear p2
     obtain ⟨x18_2, rfl, HA, HK2, BK101, HB⟩ := hrel
     cases gk with
     | zero => exact absurd HA.out (by simp [impl_FirstSolved.l0])
     | succ k2 =>
      have H := HA.out
      clear HA
      simp only [impl_FirstSolved.l0] at H
      by_cases c14 : x18_2 < (wrap64 ((a1.size : Int) + 1))
      ·rw [if_pos c14] at H
       have c14b0 : decide (x18_2 < (wrap64 ((a1.size : Int) + 1))) = true := decide_eq_true c14
       clear c14
       by_cases c15 : 0 ≤ x18_2
       ·rw [if_pos c15] at H
        have c15b0 := eq_true c15
        have c15b1 : decide (0 ≤ x18_2) = true := decide_eq_true c15
        clear c15
        by_cases c16 : x18_2 ≤ (a1.size : Int)
        ·rw [if_pos c16] at H
         have c16b0 := eq_true c16
         have c16b1 : decide (x18_2 ≤ (a1.size : Int)) = true := decide_eq_true c16
         clear c16
         replace H := Option.bind_eq_some_iff.mp H
         obtain ⟨t104, A170, H⟩ := H
         replace H : (if t104 = true then (some (a1.extract 0 (x18_2 : Int).toNat, true)) else (impl_FirstSolved.l0 k2 a1 (wrap64 ((a1.size : Int) + 1)) (wrap64 (x18_2 + 1)) a0_0 a0_1 a0_2)) = some (r1, r2) := H
         have A17 := Aside0.mk A170
         clear A170
         by_cases c18 : t104 = true
         ·subst c18
          have H1 : (some (a1.extract 0 (x18_2 : Int).toNat, true)) = some (r1, r2) := by rw [if_pos rfl] at H; exact H
          clear H
          have H := H1
          clear H1
          have c19b0 := eq_true (of_decide_eq_true (by first | (with_reducible assumption) | assumption) : 0 ≤ x18_2)
          have c20b0 := eq_true (of_decide_eq_true (by first | (with_reducible assumption) | assumption) : x18_2 ≤ (a1.size : Int))
          simp only [Option.some.injEq, Prod.mk.injEq] at H
          obtain ⟨rfl, rfl⟩ := H
          try go_wp2
          have n0_ := Aside0.mk (blk_drew BK101.out)
          have n1_ := Aside0.mk (below_drew1 HB.out)
          clear BK101
          clear HB
          have BK101 := n0_
          have HB := n1_
          clear n0_ n1_
          refine start_ (n := 5) (S := fun w' => w'.cell? ⟨gb101, 0, none⟩ = some (.string a0_0) ∧ w'.cell? ⟨gb101, 1, none⟩ = some (.string a0_1) ∧ w'.cell? ⟨gb101, 2, none⟩ = some (.int .i64 a0_2)) (ds := []) #[false, false, false, false, false] (by kernel_rfl) rfl rfl ⟨(blk_cell BK101.out 0).trans rfl, (blk_cell BK101.out 1).trans rfl, (blk_cell BK101.out 2).trans rfl⟩ (fun hHeld => ?_)
          generalize wr.drew = w21 at BK101 HB hHeld ⊢
          refine pure_ (i := 1) (N := some 22) (v := ?_) (a' := ?_) #[false, true, false, false, false] rfl rfl (by kernel_rfl) (fun _ _ _ h => h) (Or.inl ⟨by rfl, ?_⟩) ?_ ?_
          rotate_left
          ·intro w'
           go_simp
           with_reducible rfl
          rotate_left
          ·simp only [Act.put, List.setIfInBounds_toArray, List.set_cons_zero, List.set_cons_succ, i64_w, i32_w]
           rfl
          refine pure_ (i := 2) (N := some 23) (v := ?_) (a' := ?_) #[false, true, true, false, false] rfl rfl (by kernel_rfl) (fun _ _ _ h => h) (Or.inl ⟨by rfl, ?_⟩) ?_ ?_
          rotate_left
          ·intro w'
           go_simp
           with_reducible rfl
          rotate_left
          ·simp only [Act.put, List.setIfInBounds_toArray, List.set_cons_zero, List.set_cons_succ, i64_w, i32_w]
           rfl
          refine pure_ (i := 3) (N := some 24) (v := ?_) (a' := ?_) #[false, true, true, true, false] rfl rfl (by kernel_rfl) (fun _ _ _ h => h) (Or.inl ⟨by rfl, ?_⟩) ?_ ?_
          rotate_left
          ·intro w'
           go_simp
           with_reducible rfl
          rotate_left
          ·simp only [Act.put, List.setIfInBounds_toArray, List.set_cons_zero, List.set_cons_succ, i64_w, i32_w]
           rfl
          refine take_ (i := 0) (N := some 21) (v := ?_) (a' := ?_) #[true, true, true, true, false] rfl rfl (by kernel_rfl) (fun _ _ _ h => h) (Or.inl ⟨by rfl, ?_⟩) hHeld ?_ ?_
          rotate_left
          ·rintro w' ⟨s0, s1, s2⟩
           go_simp
           with_reducible rfl
          rotate_left
          ·simp only [Act.put, List.setIfInBounds_toArray, List.set_cons_zero, List.set_cons_succ, i64_w, i32_w]
           rfl
          refine one_ (i := 4) (N := some 25) #[true, true, true, true, true] rfl rfl (by kernel_rfl) (by decide) (fun K hK => ?_)
          refine goes_ Tryz.func55 (by kernel_rfl) rfl #[.agg #[.string a0_0, .string a0_1, .int .i64 a0_2], .string (a1.extract 0 (x18_2 : Int).toNat)] (by rfl) rfl rfl (by (try simp only [List.map_toArray, List.map_cons, List.map_nil]); first | done | rfl | (simp only [List.length_drop, List.length_take]; rfl)) ?_
          with_reducible refine (impl_Puzzle_solves.calls k2 a0_0 a0_1 a0_2 (a1.extract 0 (x18_2 : Int).toNat) true _ ?side1 A17.out).mono ?_
          (case side1 => (refine GoodW.below HG.out ?_); exact bel HB)
          rintro e w22 ⟨rfl, hb⟩
          refine ⟨_, rfl, ?_⟩
          have n0_ := Aside0.mk (blk_below (g := gb101) (o := .cells #[.string a0_0, .string a0_1, .int .i64 a0_2] 38 (0, 0)) blc hb)
          have n1_ := Aside0.mk (below_step (bel HB) hb)
          clear BK101
          clear HB
          have BK101 := n0_
          have HB := n1_
          clear n0_ n1_
          (try clear hb)
          (try clear hb2)
          (try clear hk)
          (try clear hi)
          refine hK.out _ _ ⟨(blk_cell BK101.out 0).trans rfl, (blk_cell BK101.out 1).trans rfl, (blk_cell BK101.out 2).trans rfl⟩ (fun hHeld => ?_)
          clear hK K
          refine norm_ (a' := ?_) ?_ ?_
          rotate_left
          ·show Act.put _ (some 25) _ = _
           simp only [Act.put, List.setIfInBounds_toArray, List.set_cons_zero, List.set_cons_succ, i64_w, i32_w]
           rfl
          refine done_ (by kernel_rfl) ?_
          try go_wp2
          go_ret2
          exact ⟨by first | rfl | (simp [errW_none, errW_some] <;> rfl) | (simp [*, errW_none, errW_some] <;> rfl), bel HB⟩
         ·replace c18 := Bool.eq_false_iff.mpr c18
          subst c18
          have H1 : (impl_FirstSolved.l0 k2 a1 (wrap64 ((a1.size : Int) + 1)) (wrap64 (x18_2 + 1)) a0_0 a0_1 a0_2) = some (r1, r2) := by rw [if_neg (show ¬ (false = true) by decide)] at H; exact H
          clear H
          have H := H1
          clear H1
          have H' := Aside0.mk H
          clear H
          try go_wp2
          have n0_ := Aside0.mk (blk_drew BK101.out)
          have n1_ := Aside0.mk (below_drew1 HB.out)
          clear BK101
          clear HB
          have BK101 := n0_
          have HB := n1_
          clear n0_ n1_
          refine start_ (n := 5) (S := fun w' => w'.cell? ⟨gb101, 0, none⟩ = some (.string a0_0) ∧ w'.cell? ⟨gb101, 1, none⟩ = some (.string a0_1) ∧ w'.cell? ⟨gb101, 2, none⟩ = some (.int .i64 a0_2)) (ds := []) #[false, false, false, false, false] (by kernel_rfl) rfl rfl ⟨(blk_cell BK101.out 0).trans rfl, (blk_cell BK101.out 1).trans rfl, (blk_cell BK101.out 2).trans rfl⟩ (fun hHeld => ?_)
          generalize wr.drew = w23 at BK101 HB hHeld ⊢
          refine pure_ (i := 1) (N := some 22) (v := ?_) (a' := ?_) #[false, true, false, false, false] rfl rfl (by kernel_rfl) (fun _ _ _ h => h) (Or.inl ⟨by rfl, ?_⟩) ?_ ?_
          rotate_left
          ·intro w'
           go_simp
           with_reducible rfl
          rotate_left
          ·simp only [Act.put, List.setIfInBounds_toArray, List.set_cons_zero, List.set_cons_succ, i64_w, i32_w]
           rfl
          refine pure_ (i := 2) (N := some 23) (v := ?_) (a' := ?_) #[false, true, true, false, false] rfl rfl (by kernel_rfl) (fun _ _ _ h => h) (Or.inl ⟨by rfl, ?_⟩) ?_ ?_
          rotate_left
          ·intro w'
           go_simp
           with_reducible rfl
          rotate_left
          ·simp only [Act.put, List.setIfInBounds_toArray, List.set_cons_zero, List.set_cons_succ, i64_w, i32_w]
           rfl
          refine pure_ (i := 3) (N := some 24) (v := ?_) (a' := ?_) #[false, true, true, true, false] rfl rfl (by kernel_rfl) (fun _ _ _ h => h) (Or.inl ⟨by rfl, ?_⟩) ?_ ?_
          rotate_left
          ·intro w'
           go_simp
           with_reducible rfl
          rotate_left
          ·simp only [Act.put, List.setIfInBounds_toArray, List.set_cons_zero, List.set_cons_succ, i64_w, i32_w]
           rfl
          refine take_ (i := 0) (N := some 21) (v := ?_) (a' := ?_) #[true, true, true, true, false] rfl rfl (by kernel_rfl) (fun _ _ _ h => h) (Or.inl ⟨by rfl, ?_⟩) hHeld ?_ ?_
          rotate_left
          ·rintro w' ⟨s0, s1, s2⟩
           go_simp
           with_reducible rfl
          rotate_left
          ·simp only [Act.put, List.setIfInBounds_toArray, List.set_cons_zero, List.set_cons_succ, i64_w, i32_w]
           rfl
          refine one_ (i := 4) (N := some 25) #[true, true, true, true, true] rfl rfl (by kernel_rfl) (by decide) (fun K hK => ?_)
          refine goes_ Tryz.func55 (by kernel_rfl) rfl #[.agg #[.string a0_0, .string a0_1, .int .i64 a0_2], .string (a1.extract 0 (x18_2 : Int).toNat)] (by rfl) rfl rfl (by (try simp only [List.map_toArray, List.map_cons, List.map_nil]); first | done | rfl | (simp only [List.length_drop, List.length_take]; rfl)) ?_
          with_reducible refine (impl_Puzzle_solves.calls k2 a0_0 a0_1 a0_2 (a1.extract 0 (x18_2 : Int).toNat) false _ ?side1 A17.out).mono ?_
          (case side1 => (refine GoodW.below HG.out ?_); exact bel HB)
          rintro e w24 ⟨rfl, hb⟩
          refine ⟨_, rfl, ?_⟩
          have n0_ := Aside0.mk (blk_below (g := gb101) (o := .cells #[.string a0_0, .string a0_1, .int .i64 a0_2] 38 (0, 0)) blc hb)
          have n1_ := Aside0.mk (below_step (bel HB) hb)
          clear BK101
          clear HB
          have BK101 := n0_
          have HB := n1_
          clear n0_ n1_
          (try clear hb)
          (try clear hb2)
          (try clear hk)
          (try clear hi)
          refine hK.out _ _ ⟨(blk_cell BK101.out 0).trans rfl, (blk_cell BK101.out 1).trans rfl, (blk_cell BK101.out 2).trans rfl⟩ (fun hHeld => ?_)
          clear hK K
          refine norm_ (a' := ?_) ?_ ?_
          rotate_left
          ·show Act.put _ (some 25) _ = _
           simp only [Act.put, List.setIfInBounds_toArray, List.set_cons_zero, List.set_cons_succ, i64_w, i32_w]
           rfl
          refine done_ (by kernel_rfl) ?_
          try go_wp2
          go_roundg k2
          case measure => have := HJ2.out; have := HK2.out; omega
          case rel => exact ⟨(wrap64 (x18_2 + 1)), (by first | rfl | (simp; done) | (simp [*]; done)), H', ⟨by have := HJ2.out; have := HK2.out; omega⟩, ⟨blc⟩, ⟨bel HB⟩⟩
        ·rw [if_neg c16] at H
         exact absurd H (by simp)
       ·rw [if_neg c15] at H
        exact absurd H (by simp)
      ·rw [if_neg c14] at H
       have c14b0 : decide (x18_2 < (wrap64 ((a1.size : Int) + 1))) = false := decide_eq_false c14
       clear c14
       simp only [Option.some.injEq, Prod.mk.injEq] at H
       obtain ⟨rfl, rfl⟩ := H
       go_wp2
       go_ret2
       exact ⟨by first | rfl | (simp [errW_none, errW_some] <;> rfl) | (simp [*, errW_none, errW_some] <;> rfl), bel HB⟩
def laws_FnExactFirstSolved.f (k : Nat) (a0_0 : ByteArray) (a0_1 : ByteArray) (a0_2 : Int) (a1 : ByteArray) : Option (Bool) := if (a1.size : Int) > 1048576 then (some true) else ((laws_szPuzzle.f a0_0 a0_1 a0_2 1048576).bind fun t102 => (if t102 < 0 then (some true) else ((laws_toPuzzle.f a0_0 a0_1 a0_2).bind fun bt103 => ((spec_FirstSolved.f k bt103.1 bt103.2.1 bt103.2.2 a1).bind fun bt106 => ((laws_toPuzzle.f a0_0 a0_1 a0_2).bind fun bt108 => ((impl_FirstSolved.f k bt108.1 bt108.2.1 bt108.2.2 a1).bind fun bt111 => (if bt111.1.toList = bt106.1.toList then (if (bt111.2 != bt106.2) = true then (some false) else (some true)) else (some false))))))))
set_option maxHeartbeats 8000000 in
set_option maxRecDepth 100000 in
theorem laws_FnExactFirstSolved.calls (k : Nat) (a0_0 : ByteArray) (a0_1 : ByteArray) (a0_2 : Int) (a1 : ByteArray) (r : Bool) (w : World) (hG : GoodW w) (h : laws_FnExactFirstSolved.f k a0_0 a0_1 a0_2 a1 = some r) :
  Calls Tryz.prog 8 #[.agg #[.string a0_0, .string a0_1, .int .i64 a0_2], .string a1] w fun e w' => e = .returned (.bool r) ∧ Below w.heap.size w w' := by
 have hu35 := Tryz.underlying35
 have HG := Aside0.mk hG
 clear hG
 have HB := Aside0.mk (Below.refl w.heap.size w)
 have H : (if (a1.size : Int) > 1048576 then (some true) else ((laws_szPuzzle.f a0_0 a0_1 a0_2 1048576).bind fun t102 => (if t102 < 0 then (some true) else ((laws_toPuzzle.f a0_0 a0_1 a0_2).bind fun bt103 => ((spec_FirstSolved.f k bt103.1 bt103.2.1 bt103.2.2 a1).bind fun bt106 => ((laws_toPuzzle.f a0_0 a0_1 a0_2).bind fun bt108 => ((impl_FirstSolved.f k bt108.1 bt108.2.1 bt108.2.2 a1).bind fun bt111 => (if bt111.1.toList = bt106.1.toList then (if (bt111.2 != bt106.2) = true then (some false) else (some true)) else (some false))))))))) = some r := h
 clear h
 by_cases c3 : (a1.size : Int) > 1048576
 ·rw [if_pos c3] at H
  have c3b0 : decide (1048576 < (a1.size : Int)) = true := decide_eq_true c3
  have c3b1 : decide (1048576 < a1.size) = true := decide_eq_true (by omega)
  clear c3
  obtain rfl := Option.some.inj H
  go_enter Tryz.func8, Tryz.ntmps8
  go_wp2_with (first | ((with_reducible refine gate_dst (N := 2) rfl ?_); refine boxE (N := 2) (cs := #[.string a0_0, .string a0_1, .int .i64 a0_2]) (t := 35) ?_; intro gb101 hg w4 hbox hb; have n0_ := Aside0.mk (below_step (bel HB) hb); have n1_ := Aside0.mk (hbox); have n2_ := Aside0.mk (gsz hg (bel HB)); have n3_ := Aside0.mk (gsz hg (bel HB)); clear HB; have HB := n0_; have BK101 := n1_; have GW101 := n2_; have GE101 := n3_; clear n0_ n1_ n2_ n3_; clear hb hbox hg))
  go_ret
  exact ⟨by first | rfl | (simp [errW_none, errW_some] <;> rfl) | (simp [*, errW_none, errW_some] <;> rfl), bel HB⟩
 ·rw [if_neg c3] at H
  have c3b0 : decide (1048576 < (a1.size : Int)) = false := decide_eq_false c3
  have c3b1 : decide (1048576 < a1.size) = false := decide_eq_false (by omega)
  clear c3
  replace H := Option.bind_eq_some_iff.mp H
  obtain ⟨t102, A50, H⟩ := H
  replace H : (if t102 < 0 then (some true) else ((laws_toPuzzle.f a0_0 a0_1 a0_2).bind fun bt103 => ((spec_FirstSolved.f k bt103.1 bt103.2.1 bt103.2.2 a1).bind fun bt106 => ((laws_toPuzzle.f a0_0 a0_1 a0_2).bind fun bt108 => ((impl_FirstSolved.f k bt108.1 bt108.2.1 bt108.2.2 a1).bind fun bt111 => (if bt111.1.toList = bt106.1.toList then (if (bt111.2 != bt106.2) = true then (some false) else (some true)) else (some false))))))) = some r := H
  have A5 := Aside0.mk A50
  clear A50
  by_cases c6 : t102 < 0
  ·rw [if_pos c6] at H
   have c6b0 : decide (t102 < 0) = true := decide_eq_true c6
   clear c6
   obtain rfl := Option.some.inj H
   go_enter Tryz.func8, Tryz.ntmps8
   go_wp2_with (first | ((with_reducible refine gate_dst (N := 2) rfl ?_); refine boxE (N := 2) (cs := #[.string a0_0, .string a0_1, .int .i64 a0_2]) (t := 35) ?_; intro gb101 hg w7 hbox hb; have n0_ := Aside0.mk (below_step (bel HB) hb); have n1_ := Aside0.mk (hbox); have n2_ := Aside0.mk (gsz hg (bel HB)); have n3_ := Aside0.mk (gsz hg (bel HB)); clear HB; have HB := n0_; have BK101 := n1_; have GW101 := n2_; have GE101 := n3_; clear n0_ n1_ n2_ n3_; clear hb hbox hg; have hcz8_0 : w7.cell? ⟨gb101, 0, none⟩ = some (.string a0_0) := (blk_cell BK101.out 0).trans rfl; have hcz8_1 : w7.cell? ⟨gb101, 1, none⟩ = some (.string a0_1) := (blk_cell BK101.out 1).trans rfl; have hcz8_2 : w7.cell? ⟨gb101, 2, none⟩ = some (.int .i64 a0_2) := (blk_cell BK101.out 2).trans rfl; have hfz8_0 := blk_frozen BK101.out 0; have hfz8_1 := blk_frozen BK101.out 1; have hfz8_2 := blk_frozen BK101.out 2) | ((with_reducible refine gate_callee (f := 20) rfl ?_); refine gcall (some 15) Tryz.func20 #[.agg #[.string a0_0, .string a0_1, .int .i64 a0_2], .int .i64 1048576] rfl ?_; (with_reducible refine (laws_szPuzzle.calls a0_0 a0_1 a0_2 1048576 t102 _ A5.out).mono ?_); rintro e w9 ⟨rfl, hb⟩; refine ⟨_, rfl, ?_⟩; have n0_ := Aside0.mk (blk_below (g := gb101) (o := .cells #[.string a0_0, .string a0_1, .int .i64 a0_2] 35 (0, 0)) blc hb); have n1_ := Aside0.mk (below_step (bel HB) hb); clear BK101; clear HB; have BK101 := n0_; have HB := n1_; clear n0_ n1_; (try clear hb); (try clear hb2); (try clear hk); (try clear hi)))
   go_ret
   exact ⟨by first | rfl | (simp [errW_none, errW_some] <;> rfl) | (simp [*, errW_none, errW_some] <;> rfl), bel HB⟩
  ·rw [if_neg c6] at H
   have c6b0 : decide (t102 < 0) = false := decide_eq_false c6
   clear c6
   replace H := Option.bind_eq_some_iff.mp H
   obtain ⟨⟨t103, t104, t105⟩, A100, H⟩ := H
   replace H : ((spec_FirstSolved.f k t103 t104 t105 a1).bind fun bt106 => ((laws_toPuzzle.f a0_0 a0_1 a0_2).bind fun bt108 => ((impl_FirstSolved.f k bt108.1 bt108.2.1 bt108.2.2 a1).bind fun bt111 => (if bt111.1.toList = bt106.1.toList then (if (bt111.2 != bt106.2) = true then (some false) else (some true)) else (some false))))) = some r := H
   have A10 := Aside0.mk A100
   clear A100
   replace H := Option.bind_eq_some_iff.mp H
   obtain ⟨⟨t106, t107⟩, A110, H⟩ := H
   replace H : ((laws_toPuzzle.f a0_0 a0_1 a0_2).bind fun bt108 => ((impl_FirstSolved.f k bt108.1 bt108.2.1 bt108.2.2 a1).bind fun bt111 => (if bt111.1.toList = t106.toList then (if (bt111.2 != t107) = true then (some false) else (some true)) else (some false)))) = some r := H
   have A11 := Aside0.mk A110
   clear A110
   replace H := Option.bind_eq_some_iff.mp H
   obtain ⟨⟨t108, t109, t110⟩, A120, H⟩ := H
   replace H : ((impl_FirstSolved.f k t108 t109 t110 a1).bind fun bt111 => (if bt111.1.toList = t106.toList then (if (bt111.2 != t107) = true then (some false) else (some true)) else (some false))) = some r := H
   have A12 := Aside0.mk A120
   clear A120
   replace H := Option.bind_eq_some_iff.mp H
   obtain ⟨⟨t111, t112⟩, A130, H⟩ := H
   replace H : (if t111.toList = t106.toList then (if (t112 != t107) = true then (some false) else (some true)) else (some false)) = some r := H
   have A13 := Aside0.mk A130
   clear A130
   by_cases c14 : t111.toList = t106.toList
   ·rw [if_pos c14] at H
    have c14b0 : (t111.toList == t106.toList) = true := beq_iff_eq.mpr c14
    have c14b1 : (t111.toList != t106.toList) = false := bne_eq_false_iff_eq.mpr c14
    clear c14
    by_cases c15 : (t112 != t107) = true
    ·rw [if_pos c15] at H
     have c15b0 : (t112 != t107) = true := c15
     (try (have c15b1 : decide (t112 = t107) = false := by simpa using c15))
     (try (have c15b2 : (t112 == t107) = false := by simpa using c15))
     (try (have c15b3 : ¬ (t112 = t107) := by simpa using c15))
     clear c15
     obtain rfl := Option.some.inj H
     go_enter Tryz.func8, Tryz.ntmps8
     go_wp2_with (first | ((with_reducible refine gate_dst (N := 2) rfl ?_); refine boxE (N := 2) (cs := #[.string a0_0, .string a0_1, .int .i64 a0_2]) (t := 35) ?_; intro gb101 hg w16 hbox hb; have n0_ := Aside0.mk (below_step (bel HB) hb); have n1_ := Aside0.mk (hbox); have n2_ := Aside0.mk (gsz hg (bel HB)); have n3_ := Aside0.mk (gsz hg (bel HB)); clear HB; have HB := n0_; have BK101 := n1_; have GW101 := n2_; have GE101 := n3_; clear n0_ n1_ n2_ n3_; clear hb hbox hg; have hcz17_0 : w16.cell? ⟨gb101, 0, none⟩ = some (.string a0_0) := (blk_cell BK101.out 0).trans rfl; have hcz17_1 : w16.cell? ⟨gb101, 1, none⟩ = some (.string a0_1) := (blk_cell BK101.out 1).trans rfl; have hcz17_2 : w16.cell? ⟨gb101, 2, none⟩ = some (.int .i64 a0_2) := (blk_cell BK101.out 2).trans rfl; have hfz17_0 := blk_frozen BK101.out 0; have hfz17_1 := blk_frozen BK101.out 1; have hfz17_2 := blk_frozen BK101.out 2) | ((with_reducible refine gate_callee (f := 20) rfl ?_); refine gcall (some 15) Tryz.func20 #[.agg #[.string a0_0, .string a0_1, .int .i64 a0_2], .int .i64 1048576] rfl ?_; (with_reducible refine (laws_szPuzzle.calls a0_0 a0_1 a0_2 1048576 t102 _ A5.out).mono ?_); rintro e w18 ⟨rfl, hb⟩; refine ⟨_, rfl, ?_⟩; have n0_ := Aside0.mk (blk_below (g := gb101) (o := .cells #[.string a0_0, .string a0_1, .int .i64 a0_2] 35 (0, 0)) blc hb); have n1_ := Aside0.mk (below_step (bel HB) hb); clear BK101; clear HB; have BK101 := n0_; have HB := n1_; clear n0_ n1_; (try clear hb); (try clear hb2); (try clear hk); (try clear hi); have hcz19_0 : w18.cell? ⟨gb101, 0, none⟩ = some (.string a0_0) := (blk_cell BK101.out 0).trans rfl; have hcz19_1 : w18.cell? ⟨gb101, 1, none⟩ = some (.string a0_1) := (blk_cell BK101.out 1).trans rfl; have hcz19_2 : w18.cell? ⟨gb101, 2, none⟩ = some (.int .i64 a0_2) := (blk_cell BK101.out 2).trans rfl; have hfz19_0 := blk_frozen BK101.out 0; have hfz19_1 := blk_frozen BK101.out 1; have hfz19_2 := blk_frozen BK101.out 2) | ((with_reducible refine gate_callee (f := 22) rfl ?_); refine gcall (some 20) Tryz.func22 #[.agg #[.string a0_0, .string a0_1, .int .i64 a0_2]] rfl ?_; (with_reducible refine (laws_toPuzzle.calls a0_0 a0_1 a0_2 t103 t104 t105 _ A10.out).mono ?_); rintro e w20 ⟨rfl, hb⟩; refine ⟨_, rfl, ?_⟩; have n0_ := Aside0.mk (blk_below (g := gb101) (o := .cells #[.string a0_0, .string a0_1, .int .i64 a0_2] 35 (0, 0)) blc hb); have n1_ := Aside0.mk (below_step (bel HB) hb); clear BK101; clear HB; have BK101 := n0_; have HB := n1_; clear n0_ n1_; (try clear hb); (try clear hb2); (try clear hk); (try clear hi)) | ((with_reducible refine gate_callee (f := 24) rfl ?_); refine gcall (some 22) Tryz.func24 #[.agg #[.string t103, .string t104, .int .i64 t105], .string a1] rfl ?_; (with_reducible refine (spec_FirstSolved.calls k t103 t104 t105 a1 t106 t107 _ A11.out).mono ?_); rintro e w21 ⟨rfl, hb⟩; refine ⟨_, rfl, ?_⟩; have n0_ := Aside0.mk (blk_below (g := gb101) (o := .cells #[.string a0_0, .string a0_1, .int .i64 a0_2] 35 (0, 0)) blc hb); have n1_ := Aside0.mk (below_step (bel HB) hb); clear BK101; clear HB; have BK101 := n0_; have HB := n1_; clear n0_ n1_; (try clear hb); (try clear hb2); (try clear hk); (try clear hi); have hcz22_0 : w21.cell? ⟨gb101, 0, none⟩ = some (.string a0_0) := (blk_cell BK101.out 0).trans rfl; have hcz22_1 : w21.cell? ⟨gb101, 1, none⟩ = some (.string a0_1) := (blk_cell BK101.out 1).trans rfl; have hcz22_2 : w21.cell? ⟨gb101, 2, none⟩ = some (.int .i64 a0_2) := (blk_cell BK101.out 2).trans rfl; have hfz22_0 := blk_frozen BK101.out 0; have hfz22_1 := blk_frozen BK101.out 1; have hfz22_2 := blk_frozen BK101.out 2) | ((with_reducible refine gate_callee (f := 22) rfl ?_); refine gcall (some 27) Tryz.func22 #[.agg #[.string a0_0, .string a0_1, .int .i64 a0_2]] rfl ?_; (with_reducible refine (laws_toPuzzle.calls a0_0 a0_1 a0_2 t108 t109 t110 _ A12.out).mono ?_); rintro e w23 ⟨rfl, hb⟩; refine ⟨_, rfl, ?_⟩; have n0_ := Aside0.mk (blk_below (g := gb101) (o := .cells #[.string a0_0, .string a0_1, .int .i64 a0_2] 35 (0, 0)) blc hb); have n1_ := Aside0.mk (below_step (bel HB) hb); clear BK101; clear HB; have BK101 := n0_; have HB := n1_; clear n0_ n1_; (try clear hb); (try clear hb2); (try clear hk); (try clear hi)) | ((with_reducible refine gate_callee (f := 25) rfl ?_); refine gcall (some 29) Tryz.func25 #[.agg #[.string t108, .string t109, .int .i64 t110], .string a1] rfl ?_; (with_reducible refine (impl_FirstSolved.calls k t108 t109 t110 a1 t111 t112 _ ?side1 A13.out).mono ?_); (case side1 => (refine GoodW.below HG.out ?_); exact bel HB); rintro e w24 ⟨rfl, hb⟩; refine ⟨_, rfl, ?_⟩; have n0_ := Aside0.mk (blk_below (g := gb101) (o := .cells #[.string a0_0, .string a0_1, .int .i64 a0_2] 35 (0, 0)) blc hb); have n1_ := Aside0.mk (below_step (bel HB) hb); clear BK101; clear HB; have BK101 := n0_; have HB := n1_; clear n0_ n1_; (try clear hb); (try clear hb2); (try clear hk); (try clear hi)))
     go_ret
     exact ⟨by first | rfl | (simp [errW_none, errW_some] <;> rfl) | (simp [*, errW_none, errW_some] <;> rfl), bel HB⟩
    ·rw [if_neg c15] at H
     have c15b0 : (t112 != t107) = false := by simpa using c15
     (try (have c15b1 : decide (t112 = t107) = true := by simpa using c15))
     (try (have c15b2 : (t112 == t107) = true := by simpa using c15))
     clear c15
     obtain rfl := Option.some.inj H
     go_enter Tryz.func8, Tryz.ntmps8
     go_wp2_with (first | ((with_reducible refine gate_dst (N := 2) rfl ?_); refine boxE (N := 2) (cs := #[.string a0_0, .string a0_1, .int .i64 a0_2]) (t := 35) ?_; intro gb101 hg w25 hbox hb; have n0_ := Aside0.mk (below_step (bel HB) hb); have n1_ := Aside0.mk (hbox); have n2_ := Aside0.mk (gsz hg (bel HB)); have n3_ := Aside0.mk (gsz hg (bel HB)); clear HB; have HB := n0_; have BK101 := n1_; have GW101 := n2_; have GE101 := n3_; clear n0_ n1_ n2_ n3_; clear hb hbox hg; have hcz26_0 : w25.cell? ⟨gb101, 0, none⟩ = some (.string a0_0) := (blk_cell BK101.out 0).trans rfl; have hcz26_1 : w25.cell? ⟨gb101, 1, none⟩ = some (.string a0_1) := (blk_cell BK101.out 1).trans rfl; have hcz26_2 : w25.cell? ⟨gb101, 2, none⟩ = some (.int .i64 a0_2) := (blk_cell BK101.out 2).trans rfl; have hfz26_0 := blk_frozen BK101.out 0; have hfz26_1 := blk_frozen BK101.out 1; have hfz26_2 := blk_frozen BK101.out 2) | ((with_reducible refine gate_callee (f := 20) rfl ?_); refine gcall (some 15) Tryz.func20 #[.agg #[.string a0_0, .string a0_1, .int .i64 a0_2], .int .i64 1048576] rfl ?_; (with_reducible refine (laws_szPuzzle.calls a0_0 a0_1 a0_2 1048576 t102 _ A5.out).mono ?_); rintro e w27 ⟨rfl, hb⟩; refine ⟨_, rfl, ?_⟩; have n0_ := Aside0.mk (blk_below (g := gb101) (o := .cells #[.string a0_0, .string a0_1, .int .i64 a0_2] 35 (0, 0)) blc hb); have n1_ := Aside0.mk (below_step (bel HB) hb); clear BK101; clear HB; have BK101 := n0_; have HB := n1_; clear n0_ n1_; (try clear hb); (try clear hb2); (try clear hk); (try clear hi); have hcz28_0 : w27.cell? ⟨gb101, 0, none⟩ = some (.string a0_0) := (blk_cell BK101.out 0).trans rfl; have hcz28_1 : w27.cell? ⟨gb101, 1, none⟩ = some (.string a0_1) := (blk_cell BK101.out 1).trans rfl; have hcz28_2 : w27.cell? ⟨gb101, 2, none⟩ = some (.int .i64 a0_2) := (blk_cell BK101.out 2).trans rfl; have hfz28_0 := blk_frozen BK101.out 0; have hfz28_1 := blk_frozen BK101.out 1; have hfz28_2 := blk_frozen BK101.out 2) | ((with_reducible refine gate_callee (f := 22) rfl ?_); refine gcall (some 20) Tryz.func22 #[.agg #[.string a0_0, .string a0_1, .int .i64 a0_2]] rfl ?_; (with_reducible refine (laws_toPuzzle.calls a0_0 a0_1 a0_2 t103 t104 t105 _ A10.out).mono ?_); rintro e w29 ⟨rfl, hb⟩; refine ⟨_, rfl, ?_⟩; have n0_ := Aside0.mk (blk_below (g := gb101) (o := .cells #[.string a0_0, .string a0_1, .int .i64 a0_2] 35 (0, 0)) blc hb); have n1_ := Aside0.mk (below_step (bel HB) hb); clear BK101; clear HB; have BK101 := n0_; have HB := n1_; clear n0_ n1_; (try clear hb); (try clear hb2); (try clear hk); (try clear hi)) | ((with_reducible refine gate_callee (f := 24) rfl ?_); refine gcall (some 22) Tryz.func24 #[.agg #[.string t103, .string t104, .int .i64 t105], .string a1] rfl ?_; (with_reducible refine (spec_FirstSolved.calls k t103 t104 t105 a1 t106 t107 _ A11.out).mono ?_); rintro e w30 ⟨rfl, hb⟩; refine ⟨_, rfl, ?_⟩; have n0_ := Aside0.mk (blk_below (g := gb101) (o := .cells #[.string a0_0, .string a0_1, .int .i64 a0_2] 35 (0, 0)) blc hb); have n1_ := Aside0.mk (below_step (bel HB) hb); clear BK101; clear HB; have BK101 := n0_; have HB := n1_; clear n0_ n1_; (try clear hb); (try clear hb2); (try clear hk); (try clear hi); have hcz31_0 : w30.cell? ⟨gb101, 0, none⟩ = some (.string a0_0) := (blk_cell BK101.out 0).trans rfl; have hcz31_1 : w30.cell? ⟨gb101, 1, none⟩ = some (.string a0_1) := (blk_cell BK101.out 1).trans rfl; have hcz31_2 : w30.cell? ⟨gb101, 2, none⟩ = some (.int .i64 a0_2) := (blk_cell BK101.out 2).trans rfl; have hfz31_0 := blk_frozen BK101.out 0; have hfz31_1 := blk_frozen BK101.out 1; have hfz31_2 := blk_frozen BK101.out 2) | ((with_reducible refine gate_callee (f := 22) rfl ?_); refine gcall (some 27) Tryz.func22 #[.agg #[.string a0_0, .string a0_1, .int .i64 a0_2]] rfl ?_; (with_reducible refine (laws_toPuzzle.calls a0_0 a0_1 a0_2 t108 t109 t110 _ A12.out).mono ?_); rintro e w32 ⟨rfl, hb⟩; refine ⟨_, rfl, ?_⟩; have n0_ := Aside0.mk (blk_below (g := gb101) (o := .cells #[.string a0_0, .string a0_1, .int .i64 a0_2] 35 (0, 0)) blc hb); have n1_ := Aside0.mk (below_step (bel HB) hb); clear BK101; clear HB; have BK101 := n0_; have HB := n1_; clear n0_ n1_; (try clear hb); (try clear hb2); (try clear hk); (try clear hi)) | ((with_reducible refine gate_callee (f := 25) rfl ?_); refine gcall (some 29) Tryz.func25 #[.agg #[.string t108, .string t109, .int .i64 t110], .string a1] rfl ?_; (with_reducible refine (impl_FirstSolved.calls k t108 t109 t110 a1 t111 t112 _ ?side1 A13.out).mono ?_); (case side1 => (refine GoodW.below HG.out ?_); exact bel HB); rintro e w33 ⟨rfl, hb⟩; refine ⟨_, rfl, ?_⟩; have n0_ := Aside0.mk (blk_below (g := gb101) (o := .cells #[.string a0_0, .string a0_1, .int .i64 a0_2] 35 (0, 0)) blc hb); have n1_ := Aside0.mk (below_step (bel HB) hb); clear BK101; clear HB; have BK101 := n0_; have HB := n1_; clear n0_ n1_; (try clear hb); (try clear hb2); (try clear hk); (try clear hi)))
     go_ret
     exact ⟨by first | rfl | (simp [errW_none, errW_some] <;> rfl) | (simp [*, errW_none, errW_some] <;> rfl), bel HB⟩
   ·rw [if_neg c14] at H
    have c14b0 : (t111.toList == t106.toList) = false := beq_eq_false_iff_ne.mpr c14
    have c14b1 : (t111.toList != t106.toList) = true := bne_iff_ne.mpr c14
    obtain rfl := Option.some.inj H
    go_enter Tryz.func8, Tryz.ntmps8
    go_wp2_with (first | ((with_reducible refine gate_dst (N := 2) rfl ?_); refine boxE (N := 2) (cs := #[.string a0_0, .string a0_1, .int .i64 a0_2]) (t := 35) ?_; intro gb101 hg w34 hbox hb; have n0_ := Aside0.mk (below_step (bel HB) hb); have n1_ := Aside0.mk (hbox); have n2_ := Aside0.mk (gsz hg (bel HB)); have n3_ := Aside0.mk (gsz hg (bel HB)); clear HB; have HB := n0_; have BK101 := n1_; have GW101 := n2_; have GE101 := n3_; clear n0_ n1_ n2_ n3_; clear hb hbox hg; have hcz35_0 : w34.cell? ⟨gb101, 0, none⟩ = some (.string a0_0) := (blk_cell BK101.out 0).trans rfl; have hcz35_1 : w34.cell? ⟨gb101, 1, none⟩ = some (.string a0_1) := (blk_cell BK101.out 1).trans rfl; have hcz35_2 : w34.cell? ⟨gb101, 2, none⟩ = some (.int .i64 a0_2) := (blk_cell BK101.out 2).trans rfl; have hfz35_0 := blk_frozen BK101.out 0; have hfz35_1 := blk_frozen BK101.out 1; have hfz35_2 := blk_frozen BK101.out 2) | ((with_reducible refine gate_callee (f := 20) rfl ?_); refine gcall (some 15) Tryz.func20 #[.agg #[.string a0_0, .string a0_1, .int .i64 a0_2], .int .i64 1048576] rfl ?_; (with_reducible refine (laws_szPuzzle.calls a0_0 a0_1 a0_2 1048576 t102 _ A5.out).mono ?_); rintro e w36 ⟨rfl, hb⟩; refine ⟨_, rfl, ?_⟩; have n0_ := Aside0.mk (blk_below (g := gb101) (o := .cells #[.string a0_0, .string a0_1, .int .i64 a0_2] 35 (0, 0)) blc hb); have n1_ := Aside0.mk (below_step (bel HB) hb); clear BK101; clear HB; have BK101 := n0_; have HB := n1_; clear n0_ n1_; (try clear hb); (try clear hb2); (try clear hk); (try clear hi); have hcz37_0 : w36.cell? ⟨gb101, 0, none⟩ = some (.string a0_0) := (blk_cell BK101.out 0).trans rfl; have hcz37_1 : w36.cell? ⟨gb101, 1, none⟩ = some (.string a0_1) := (blk_cell BK101.out 1).trans rfl; have hcz37_2 : w36.cell? ⟨gb101, 2, none⟩ = some (.int .i64 a0_2) := (blk_cell BK101.out 2).trans rfl; have hfz37_0 := blk_frozen BK101.out 0; have hfz37_1 := blk_frozen BK101.out 1; have hfz37_2 := blk_frozen BK101.out 2) | ((with_reducible refine gate_callee (f := 22) rfl ?_); refine gcall (some 20) Tryz.func22 #[.agg #[.string a0_0, .string a0_1, .int .i64 a0_2]] rfl ?_; (with_reducible refine (laws_toPuzzle.calls a0_0 a0_1 a0_2 t103 t104 t105 _ A10.out).mono ?_); rintro e w38 ⟨rfl, hb⟩; refine ⟨_, rfl, ?_⟩; have n0_ := Aside0.mk (blk_below (g := gb101) (o := .cells #[.string a0_0, .string a0_1, .int .i64 a0_2] 35 (0, 0)) blc hb); have n1_ := Aside0.mk (below_step (bel HB) hb); clear BK101; clear HB; have BK101 := n0_; have HB := n1_; clear n0_ n1_; (try clear hb); (try clear hb2); (try clear hk); (try clear hi)) | ((with_reducible refine gate_callee (f := 24) rfl ?_); refine gcall (some 22) Tryz.func24 #[.agg #[.string t103, .string t104, .int .i64 t105], .string a1] rfl ?_; (with_reducible refine (spec_FirstSolved.calls k t103 t104 t105 a1 t106 t107 _ A11.out).mono ?_); rintro e w39 ⟨rfl, hb⟩; refine ⟨_, rfl, ?_⟩; have n0_ := Aside0.mk (blk_below (g := gb101) (o := .cells #[.string a0_0, .string a0_1, .int .i64 a0_2] 35 (0, 0)) blc hb); have n1_ := Aside0.mk (below_step (bel HB) hb); clear BK101; clear HB; have BK101 := n0_; have HB := n1_; clear n0_ n1_; (try clear hb); (try clear hb2); (try clear hk); (try clear hi); have hcz40_0 : w39.cell? ⟨gb101, 0, none⟩ = some (.string a0_0) := (blk_cell BK101.out 0).trans rfl; have hcz40_1 : w39.cell? ⟨gb101, 1, none⟩ = some (.string a0_1) := (blk_cell BK101.out 1).trans rfl; have hcz40_2 : w39.cell? ⟨gb101, 2, none⟩ = some (.int .i64 a0_2) := (blk_cell BK101.out 2).trans rfl; have hfz40_0 := blk_frozen BK101.out 0; have hfz40_1 := blk_frozen BK101.out 1; have hfz40_2 := blk_frozen BK101.out 2) | ((with_reducible refine gate_callee (f := 22) rfl ?_); refine gcall (some 27) Tryz.func22 #[.agg #[.string a0_0, .string a0_1, .int .i64 a0_2]] rfl ?_; (with_reducible refine (laws_toPuzzle.calls a0_0 a0_1 a0_2 t108 t109 t110 _ A12.out).mono ?_); rintro e w41 ⟨rfl, hb⟩; refine ⟨_, rfl, ?_⟩; have n0_ := Aside0.mk (blk_below (g := gb101) (o := .cells #[.string a0_0, .string a0_1, .int .i64 a0_2] 35 (0, 0)) blc hb); have n1_ := Aside0.mk (below_step (bel HB) hb); clear BK101; clear HB; have BK101 := n0_; have HB := n1_; clear n0_ n1_; (try clear hb); (try clear hb2); (try clear hk); (try clear hi)) | ((with_reducible refine gate_callee (f := 25) rfl ?_); refine gcall (some 29) Tryz.func25 #[.agg #[.string t108, .string t109, .int .i64 t110], .string a1] rfl ?_; (with_reducible refine (impl_FirstSolved.calls k t108 t109 t110 a1 t111 t112 _ ?side1 A13.out).mono ?_); (case side1 => (refine GoodW.below HG.out ?_); exact bel HB); rintro e w42 ⟨rfl, hb⟩; refine ⟨_, rfl, ?_⟩; have n0_ := Aside0.mk (blk_below (g := gb101) (o := .cells #[.string a0_0, .string a0_1, .int .i64 a0_2] 35 (0, 0)) blc hb); have n1_ := Aside0.mk (below_step (bel HB) hb); clear BK101; clear HB; have BK101 := n0_; have HB := n1_; clear n0_ n1_; (try clear hb); (try clear hb2); (try clear hk); (try clear hi)))
    go_ret
    exact ⟨by first | rfl | (simp [errW_none, errW_some] <;> rfl) | (simp [*, errW_none, errW_some] <;> rfl), bel HB⟩
end Go.Proofs.YtepmpilopmcjpaaGreatDoor.Q
end
section
namespace Go.Proofs.YtepmpilopmcjpaaGreatDoor.Q
set_option linter.unusedSectionVars false
open Go.RowKit Go.Proofs.YtepmpilopmcjpaaGreatDoorW.PrintWords Go.Proofs.YtepmpilopmcjpaaGreatDoorW.PrintLast Go.Proofs.YtepmpilopmcjpaaGreatDoorW.PrintMore
open Classical
def firstAt (w h : Nat) (c g : Int) : List Nat → Nat → List Int → Option Nat
 | [], i, cs => if rd cs g = c then some i else none
 | d :: l, i, cs => if rd cs g = c then some i else firstAt w h c g l (i + 1) (tiltC w h cs d)
def ansF (u : ByteArray) : Option Nat → ByteArray × Bool
 | some i => (u.extract 0 ((i : Nat) : Int).toNat, true)
 | none => (⟨#[]⟩, false)
theorem cut_front (u : ByteArray) (i : Nat) : (u.extract 0 ((i : Nat) : Int).toNat).data.toList = u.data.toList.take i := by
 rw [Int.toNat_natCast, ByteArray.data_extract, Array.toList_extract, List.extract_eq_take_drop]
 rw [List.drop_zero, Nat.sub_zero]
theorem word_front {u : ByteArray} (hb : wordB u = true) (i : Nat) : wordB (u.extract 0 ((i : Nat) : Int).toNat) = true := by
 unfold wordB wordL at hb ⊢
 rw [cut_front]
 rw [Bool.and_eq_true, decide_eq_true_eq, List.all_eq_true] at hb ⊢
 exact ⟨by rw [List.length_take]; have := hb.1; omega, fun b hm => hb.2 b (List.take_subset _ _ hm)⟩
section
variable {w h : Nat} (hw : w ≤ 7) (hh : h ≤ 7) (hs : w * h ≤ 36) (hw1 : 0 < w) (hh1 : 0 < h)
include hw hh hs hw1 hh1
theorem fsS_l0 (t s u : ByteArray) (g : Int) (hb : wordB u = true) (hk : nameOK s = true) : ∀ (m i : Nat) (cs : List Int) (x : Int), i + m = u.size → cs.length = w * h → only cs (bt s 0) x → (0 ≤ g ∧ g < (cs.length : Int)) → Ev (fun k => spec_FirstSolved.l0 k u (i : Int) t s g w h cs) (ansF u (firstAt w h (bt s 0) g ((u.data.toList.drop i).map dirN) i cs)) := by
 have hp := wordB_parts hb
 have hk1 := (of_decide_eq_true hk).1
 have hdl := data_length u
 intro m
 induction m with
 | zero =>
  intro i cs x hi hn ho hg
  rw [List.drop_eq_nil_of_le (by omega)]
  show Ev _ (ansF u (if rd cs g = bt s 0 then some i else none))
  refine Ev.step (Ev.bind (f := fun k t111 => (if t111 = g then (if 0 ≤ (i : Int) then (if (i : Int) ≤ (u.size : Int) then (some (u.extract 0 (i : Int).toNat, true)) else (none)) else (none)) else (if (i : Int) = (u.size : Int) then (some ((⟨#[]⟩ : ByteArray), false)) else none))) (tiPlace_ev cs (bt s 0) w h (by omega)) (Ev.const ?_)) fun k => ?_
  ·rw [idx_only ho]
   by_cases e : rd cs g = bt s 0
   ·rw [if_pos ((only_iff ho hg.1 hg.2).2 e), if_pos (by omega), if_pos (by omega), if_pos e]
    rfl
   ·rw [if_neg fun e2 => e ((only_iff ho hg.1 hg.2).1 e2), if_pos (by omega), if_neg e]
    rfl
  ·rw [spec_FirstSolved.l0, if_pos (by omega)]
   congr 1
   funext t111
   split
   ·rfl
   ·rw [if_pos (by omega), if_pos (by omega)]
 | succ m ih =>
  intro i cs x hi hn ho hg
  have hil : i < u.data.toList.length := by omega
  have hd := hp.2 i hil
  have hd4 := dirN_lt u.data.toList[i]
  rw [List.drop_eq_getElem_cons hil, List.map_cons]
  show Ev _ (ansF u (if rd cs g = bt s 0 then some i else firstAt w h (bt s 0) g ((u.data.toList.drop (i + 1)).map dirN) (i + 1) (tiltC w h cs (dirN u.data.toList[i]))))
  have hl2 : (tiltC w h cs (dirN u.data.toList[i])).length = cs.length := tiltC_len hw hh hs hd4
  have ih2 := ih (i + 1) (tiltC w h cs (dirN u.data.toList[i])) _ (by omega) (hl2.trans hn) (only_tilt hw hh hs hd4 hn (name_ball hk) ho) (by rw [hl2]; exact hg)
  have h1 := tiDir_ev (u.extract ((i : Nat) : Int).toNat (((i + 1 : Nat) : Int)).toNat)
  rw [dirI_one (cut_one u i (by omega)), if_pos hd] at h1
  refine Ev.step (Ev.bind (f := fun k t111 => (if t111 = g then (if 0 ≤ (i : Int) then (if (i : Int) ≤ (u.size : Int) then (some (u.extract 0 (i : Int).toNat, true)) else (none)) else (none)) else ((spec_tiDir.f k (u.extract ((i : Nat) : Int).toNat (((i + 1 : Nat) : Int)).toNat)).bind fun t112 => ((spec_tiTilt.f k w h cs t112).bind fun bt113 => (spec_FirstSolved.l0 k u ((i + 1 : Nat) : Int) t s g bt113.1 bt113.2.1 bt113.2.2))))) (tiPlace_ev cs (bt s 0) w h (by omega)) ?_) fun k => ?_
  ·rw [idx_only ho]
   by_cases e : rd cs g = bt s 0
   ·rw [if_pos e]
    refine Ev.congr (Ev.const (o := some (u.extract 0 (i : Int).toNat, true)) rfl) fun k => ?_
    rw [if_pos ((only_iff ho hg.1 hg.2).2 e), if_pos (by omega), if_pos (by omega)]
   ·rw [if_neg e]
    refine Ev.congr (Ev.bind (f := fun k t112 => ((spec_tiTilt.f k w h cs t112).bind fun bt113 => (spec_FirstSolved.l0 k u ((i + 1 : Nat) : Int) t s g bt113.1 bt113.2.1 bt113.2.2))) h1 (Ev.bind (f := fun k (bt113 : Int × Int × List Int) => (spec_FirstSolved.l0 k u ((i + 1 : Nat) : Int) t s g bt113.1 bt113.2.1 bt113.2.2)) (tiTilt_ev hw hh hs hd4 hw1 hh1 hn) ih2)) fun k => ?_
    exact if_neg fun e2 => e ((only_iff ho hg.1 hg.2).1 e2)
  ·rw [spec_FirstSolved.l0, if_pos (by omega)]
   congr 1
   funext t111
   split
   ·rfl
   ·rw [if_neg (by omega), if_pos (by omega), wr1 i (by have := hp.1; omega), if_pos (by omega), if_pos (by omega)]
theorem fsI_l0 (t s u : ByteArray) (g : Int) (cs : List Int) (ht : trayOf t = some ((w : Int), (h : Int), cs)) (hn : cs.length = w * h) (hb : wordB u = true) (hk : nameOK s = true) (hg : 0 ≤ g ∧ g < (cs.length : Int)) : ∀ (m i : Nat), i + m = u.size → Ev (fun k => impl_FirstSolved.l0 k u (((u.size + 1 : Nat)) : Int) (i : Int) t s g) (ansF u (firstAt w h (bt s 0) g ((u.data.toList.drop i).map dirN) i (tiltW w h ((u.data.toList.take i).map dirN) cs))) := by
 have hp := wordB_parts hb
 have hdl := data_length u
 have hval : ∀ i : Nat, Ev (fun k => impl_Puzzle_solves.f k t s g (u.extract 0 ((i : Nat) : Int).toNat)) (rd (tiltW w h ((u.data.toList.take i).map dirN) cs) g == bt s 0) := by
  intro i
  have := solves_ev ht hw hh hs hw1 hh1 hn hk hg (word_front hb i)
  rw [cut_front] at this
  exact this
 intro m
 induction m with
 | zero =>
  intro i hi
  rw [List.drop_eq_nil_of_le (by omega)]
  show Ev _ (ansF u (if rd (tiltW w h ((u.data.toList.take i).map dirN) cs) g = bt s 0 then some i else none))
  refine Ev.step (Ev.bind (f := fun k (t104 : Bool) => (if t104 = true then (some (u.extract 0 (i : Int).toNat, true)) else (impl_FirstSolved.l0 k u ((u.size + 1 : Nat) : Int) ((i + 1 : Nat) : Int) t s g))) (hval i) ?_) fun k => ?_
  ·by_cases e : rd (tiltW w h ((u.data.toList.take i).map dirN) cs) g = bt s 0
   ·rw [if_pos e]
    exact Ev.congr (Ev.const (o := some (u.extract 0 (i : Int).toNat, true)) rfl) fun k => if_pos (beq_iff_eq.2 e)
   ·rw [if_neg e]
    refine Ev.congr (Ev.step (g := fun k => impl_FirstSolved.l0 k u ((u.size + 1 : Nat) : Int) ((i + 1 : Nat) : Int) t s g) (Ev.const (o := some ((⟨#[]⟩ : ByteArray), false)) rfl) fun k => ?_) fun k => if_neg (by simpa using e)
    rw [impl_FirstSolved.l0, if_neg (by omega)]
  ·rw [impl_FirstSolved.l0, if_pos (by omega), if_pos (by omega), if_pos (by omega), wr1 i (by have := hp.1; omega)]
 | succ m ih =>
  intro i hi
  have hil : i < u.data.toList.length := by omega
  rw [List.drop_eq_getElem_cons hil, List.map_cons]
  show Ev _ (ansF u (if rd (tiltW w h ((u.data.toList.take i).map dirN) cs) g = bt s 0 then some i else firstAt w h (bt s 0) g ((u.data.toList.drop (i + 1)).map dirN) (i + 1) (tiltC w h (tiltW w h ((u.data.toList.take i).map dirN) cs) (dirN u.data.toList[i]))))
  have ih2 := ih (i + 1) (by omega)
  rw [List.take_succ_eq_append_getElem hil, List.map_append, List.map_singleton, tiltW_snoc] at ih2
  refine Ev.step (Ev.bind (f := fun k (t104 : Bool) => (if t104 = true then (some (u.extract 0 (i : Int).toNat, true)) else (impl_FirstSolved.l0 k u ((u.size + 1 : Nat) : Int) ((i + 1 : Nat) : Int) t s g))) (hval i) ?_) fun k => ?_
  ·by_cases e : rd (tiltW w h ((u.data.toList.take i).map dirN) cs) g = bt s 0
   ·rw [if_pos e]
    exact Ev.congr (Ev.const (o := some (u.extract 0 (i : Int).toNat, true)) rfl) fun k => if_pos (beq_iff_eq.2 e)
   ·rw [if_neg e]
    exact Ev.congr ih2 fun k => if_neg (by simpa using e)
  ·rw [impl_FirstSolved.l0, if_pos (by omega), if_pos (by omega), if_pos (by omega), wr1 i (by have := hp.1; omega)]
end
def FirstSolvedR (t s : ByteArray) (g : Int) (u : ByteArray) : ByteArray × Bool := if puzB t s g = true ∧ wordB u = true then (match trayOf t with | none => (⟨#[]⟩, false) | some (w, h, cs) => ansF u (firstAt w.toNat h.toNat (bt s 0) g (u.data.toList.map dirN) 0 cs)) else (⟨#[]⟩, false)
theorem specFirstSolved_ev (t s : ByteArray) (g : Int) (u : ByteArray) : Ev (fun k => spec_FirstSolved.f k t s g u) (FirstSolvedR t s g u) := by
 have hno : Ev (fun k => spec_FirstSolved.j0 k u true t s g) (⟨#[]⟩, false) := by
  refine Ev.step (Ev.const (o := some ((⟨#[]⟩ : ByteArray), false)) rfl) fun k => ?_
  rw [spec_FirstSolved.j0, if_pos rfl]
 refine Ev.bind (f := fun k (t102 : Bool) => (if t102 = true then ((spec_tiWord.f k u).bind fun t103 => (spec_FirstSolved.j0 k u (!t103) t s g)) else (spec_FirstSolved.j0 k u true t s g))) (puGood_ev t s g) ?_
 unfold FirstSolvedR
 cases hp : puzB t s g with
 | false =>
  rw [if_neg (by simp)]
  exact Ev.congr hno fun k => if_neg (by decide)
 | true =>
  have hgo : ∀ b : Bool, wordB u = b → Ev (fun k => spec_FirstSolved.j0 k u (!b) t s g) (if true = true ∧ wordB u = true then (match trayOf t with | none => (⟨#[]⟩, false) | some (w, h, cs) => ansF u (firstAt w.toNat h.toNat (bt s 0) g (u.data.toList.map dirN) 0 cs)) else (⟨#[]⟩, false)) := by
   intro b hb
   cases b with
   | false =>
    rw [if_neg (by rw [hb]; simp)]
    exact hno
   | true =>
    rw [if_pos ⟨rfl, hb⟩]
    obtain ⟨w, h, cs, ht, hw1, hw, hh1, hh, hs, hn, hk, hg, ho⟩ := puz_parts hp
    have h1 := tyRead_ev t
    have h2 := fsS_l0 hw hh hs hw1 hh1 t s u g hb hk u.size 0 cs _ (by omega) hn ho hg
    rw [List.drop_zero] at h2
    rw [ht] at h1 ⊢
    simp only [Int.toNat_natCast]
    refine Ev.step (Ev.bind (f := fun k (bt104 : Int × Int × List Int × Bool) => (spec_FirstSolved.l0 k u 0 t s g bt104.1 bt104.2.1 bt104.2.2.1)) h1 h2) fun k => ?_
    rw [spec_FirstSolved.j0, if_neg (by decide)]
  refine Ev.congr (Ev.bind (f := fun k t103 => spec_FirstSolved.j0 k u (!t103) t s g) (tiWord_ev u) (hgo _ rfl)) fun k => if_pos rfl
theorem implFirstSolved_ev (t s : ByteArray) (g : Int) (u : ByteArray) (ht0 : t.size ≤ 1048576) : Ev (fun k => impl_FirstSolved.f k t s g u) (FirstSolvedR t s g u) := by
 have hno : Ev (fun k => impl_FirstSolved.j0 k u true t s g) (⟨#[]⟩, false) := by
  refine Ev.step (Ev.const (o := some ((⟨#[]⟩ : ByteArray), false)) rfl) fun k => ?_
  rw [impl_FirstSolved.j0, if_pos rfl]
 refine Ev.bind (f := fun k (t102 : Bool) => (if t102 = true then ((impl_IsWord.f u).bind fun t103 => (impl_FirstSolved.j0 k u (!t103) t s g)) else (impl_FirstSolved.j0 k u true t s g))) (isPuzzle_ev t s g ht0) ?_
 unfold FirstSolvedR
 cases hp : puzB t s g with
 | false =>
  rw [if_neg (by simp)]
  exact Ev.congr hno fun k => if_neg (by decide)
 | true =>
  by_cases hb : wordB u = true
  ·rw [if_pos ⟨rfl, hb⟩]
   obtain ⟨w, h, cs, ht, hw1, hw, hh1, hh, hs, hn, hk, hg, ho⟩ := puz_parts hp
   have h2 := fsI_l0 hw hh hs hw1 hh1 t s u g cs ht hn hb hk hg u.size 0 (by omega)
   rw [List.drop_zero, List.take_zero] at h2
   rw [ht]
   have h3 : Ev (fun k => impl_FirstSolved.j0 k u false t s g) (ansF u (firstAt w h (bt s 0) g (u.data.toList.map dirN) 0 cs)) := by
    refine Ev.step h2 fun k => ?_
    rw [impl_FirstSolved.j0, if_neg (by decide), wr1 u.size (by have := (wordB_parts hb).1; omega)]
    rfl
   refine Ev.congr h3 fun k => ?_
   rw [if_pos rfl, isWord_eq, Option.bind_some, hb]
   rfl
  ·rw [if_neg (by simp [hb])]
   have hb : wordB u = false := by simpa using hb
   refine Ev.congr hno fun k => ?_
   rw [if_pos rfl, isWord_eq, Option.bind_some, hb]
   rfl
theorem lawFirstSolved_ev (t s : ByteArray) (g : Int) (u : ByteArray) (mt : t.size ≤ 9223372036854775807) (ms : s.size ≤ 9223372036854775807) : Ev (fun k => laws_FnExactFirstSolved.f k t s g u) true := by
 by_cases hu : u.size ≤ 1048576
 case neg =>
  refine Ev.congr (Ev.const (o := some true) rfl) fun k => ?_
  unfold laws_FnExactFirstSolved.f
  exact if_pos (by omega)
 by_cases hz : t.size + s.size ≤ 1048576
 case neg =>
  refine Ev.congr (Ev.const (o := some true) rfl) fun k => ?_
  unfold laws_FnExactFirstSolved.f
  rw [if_neg (by omega)]
  obtain ⟨z, e, hz2⟩ := szPuz_neg t s g mt ms hz
  rw [e, Option.bind_some, if_pos hz2]
 have ht : t.size ≤ 1048576 := by omega
 obtain ⟨z, e, hz2⟩ := szPuz_pos t s g hz
 have hsp := specFirstSolved_ev t s g u
 have him := implFirstSolved_ev t s g u ht
 refine Ev.congr (Ev.bind (f := fun k (bt106 : ByteArray × Bool) => ((impl_FirstSolved.f k t s g u).bind fun bt111 => (if bt111.1.toList = bt106.1.toList then (if (bt111.2 != bt106.2) = true then (some false) else (some true)) else (some false)))) hsp (Ev.bind (f := fun _ (bt111 : ByteArray × Bool) => (if bt111.1.toList = (FirstSolvedR t s g u).1.toList then (if (bt111.2 != (FirstSolvedR t s g u).2) = true then (some false) else (some true)) else (some false))) him (Ev.const ?_))) fun k => ?_
 ·rw [if_pos rfl, bne_self_eq_false, if_neg (by decide)]
 ·unfold laws_FnExactFirstSolved.f
  rw [if_neg (by omega), e, Option.bind_some, if_neg hz2]
  rfl
end Go.Proofs.YtepmpilopmcjpaaGreatDoor.Q
end
