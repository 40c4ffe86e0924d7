/- Texts of this claim, joined. -/
import Derived.Test.YtohfcmhidjaohaaDoorJMovedBalls01
import Derived.Test.YtohfcmhidjaohaaDoorJMovedBalls03
import Derived.Test.YtohfcmhidjaohaaDoorJMovedBalls02
set_option linter.unusedVariables false
set_option linter.unusedSimpArgs false
set_option linter.unusedSectionVars false
section
namespace Go.Proofs.YtohfcmhidjaohaaDoor.Q
open Go.RowKit Go.Proofs.YtohfcmhidjaohaaDoorW.PrintWords Go.Proofs.YtohfcmhidjaohaaDoorW.PrintLast Go.Proofs.YtohfcmhidjaohaaDoorW.PrintMore
attribute [local go_sem] max2_int min2_int max_two min_two max_three min_three max_four min_four
set_option linter.unusedVariables false
set_option linter.unusedSimpArgs false
def spec_tiDir.l0 : Nat → ByteArray → Int → Option (Int)
 | 0, _, _ => none
 | k + 1, x0, x3 => if x3 < 4 then ((spec_tiDirs.f).bind fun t101 => (if 0 ≤ x3 then (if x3 ≤ (wrap64 (x3 + 1)) then (if (wrap64 (x3 + 1)) ≤ (t101.size : Int) then (if x0.toList = (t101.extract (x3 : Int).toNat ((wrap64 (x3 + 1)) : Int).toNat).toList then (some x3) else (spec_tiDir.l0 k x0 (wrap64 (x3 + 1)))) else (none)) else (none)) else (none))) else (some (-1))
def spec_tiDir.f (k : Nat) (a0 : ByteArray) : Option (Int) := spec_tiDir.l0 k a0 0
set_option maxHeartbeats 8000000 in
set_option maxRecDepth 100000 in
theorem spec_tiDir.calls (k : Nat) (a0 : ByteArray) (r : Int) (w : World) (h : spec_tiDir.f k a0 = some r) :
  Calls Tryd.prog 36 #[.string a0] w fun e w' => e = .returned (.int .i64 r) ∧ Drawn0 w w' := by
 have H : (spec_tiDir.l0 k a0 0) = some r := h
 clear h
 have H' := Aside0.mk H
 clear H
 go_enter Tryd.func36, Tryd.ntmps36
 go_wp2
 go_loopg [3] k (fun kq v3 w' => ∃ (x3_1 : Int), v3 = .int .i64 x3_1 ∧ Aside0 (spec_tiDir.l0 kq a0 x3_1 = some r) ∧ Aside0 (kq ≤ k) ∧ Drawn0 w w')
 case atStart => exact ⟨(0), (by first | rfl | (simp; done) | (simp [*]; done)), H', ⟨Nat.le_refl _⟩, by repeat (first | exact Drawn0.refl _ | apply Drawn0.step)⟩
 case round =>
  clear H'
  obtain ⟨x3_1, rfl, HA, HK1, ⟨m1, rfl⟩⟩ := hrel
  cases gk with
  | zero => exact absurd HA.out (by simp [spec_tiDir.l0])
  | succ k1 =>
   have H := HA.out
   clear HA
   simp only [spec_tiDir.l0] at H
   by_cases c2 : x3_1 < 4
   ·rw [if_pos c2] at H
    have c2b0 : decide (x3_1 < 4) = true := decide_eq_true c2
    clear c2
    replace H := Option.bind_eq_some_iff.mp H
    obtain ⟨t101, A30, H⟩ := H
    replace H : (if 0 ≤ x3_1 then (if x3_1 ≤ (wrap64 (x3_1 + 1)) then (if (wrap64 (x3_1 + 1)) ≤ (t101.size : Int) then (if a0.toList = (t101.extract (x3_1 : Int).toNat ((wrap64 (x3_1 + 1)) : Int).toNat).toList then (some x3_1) else (spec_tiDir.l0 k1 a0 (wrap64 (x3_1 + 1)))) else (none)) else (none)) else (none)) = some r := H
    have A3 := Aside0.mk A30
    clear A30
    by_cases c4 : 0 ≤ x3_1
    ·rw [if_pos c4] at H
     have c4b0 := eq_true c4
     have c4b1 : decide (0 ≤ x3_1) = true := decide_eq_true c4
     clear c4
     by_cases c5 : x3_1 ≤ (wrap64 (x3_1 + 1))
     ·rw [if_pos c5] at H
      have c5b0 := eq_true c5
      have c5b1 : decide (x3_1 ≤ (wrap64 (x3_1 + 1))) = true := decide_eq_true c5
      by_cases c6 : (wrap64 (x3_1 + 1)) ≤ (t101.size : Int)
      ·rw [if_pos c6] at H
       have c6b0 := eq_true c6
       have c6b1 : decide ((wrap64 (x3_1 + 1)) ≤ (t101.size : Int)) = true := decide_eq_true c6
       by_cases c7 : a0.toList = (t101.extract (x3_1 : Int).toNat ((wrap64 (x3_1 + 1)) : Int).toNat).toList
       ·rw [if_pos c7] at H
        have c7b0 : (a0.toList == (t101.extract (x3_1 : Int).toNat ((wrap64 (x3_1 + 1)) : Int).toNat).toList) = true := beq_iff_eq.mpr c7
        have c7b1 : (a0.toList != (t101.extract (x3_1 : Int).toNat ((wrap64 (x3_1 + 1)) : Int).toNat).toList) = false := bne_eq_false_iff_eq.mpr c7
        clear c7
        obtain rfl := Option.some.inj H
        go_wp2_with (first | ((with_reducible refine gate_callee (f := 45) rfl ?_); refine gcall (some 9) Tryd.func45 #[] rfl ?_; (with_reducible refine (spec_tiDirs.calls  t101 _ A3.out).mono ?_); rintro e w' ⟨rfl, ⟨nd, rfl⟩⟩; refine ⟨_, rfl, ?_⟩))
        go_ret
        exact ⟨by first | rfl | (simp; done) | (simp [*]; done), by repeat (first | exact Drawn0.refl _ | apply Drawn0.step)⟩
       ·rw [if_neg c7] at H
        have c7b0 : (a0.toList == (t101.extract (x3_1 : Int).toNat ((wrap64 (x3_1 + 1)) : Int).toNat).toList) = false := beq_eq_false_iff_ne.mpr c7
        have c7b1 : (a0.toList != (t101.extract (x3_1 : Int).toNat ((wrap64 (x3_1 + 1)) : Int).toNat).toList) = true := bne_iff_ne.mpr c7
        have H' := Aside0.mk H
        clear H
        go_wp2_with (first | ((with_reducible refine gate_callee (f := 45) rfl ?_); refine gcall (some 9) Tryd.func45 #[] rfl ?_; (with_reducible refine (spec_tiDirs.calls  t101 _ A3.out).mono ?_); rintro e w' ⟨rfl, ⟨nd, rfl⟩⟩; refine ⟨_, rfl, ?_⟩))
        go_roundg k1
        case measure => have := HK1.out; omega
        case rel => exact ⟨(wrap64 (x3_1 + 1)), (by first | rfl | (simp; done) | (simp [*]; done)), H', ⟨by have := HK1.out; omega⟩, by repeat (first | exact Drawn0.refl _ | apply Drawn0.step)⟩
      ·rw [if_neg c6] at H
       exact absurd H (by simp)
     ·rw [if_neg c5] at H
      exact absurd H (by simp)
    ·rw [if_neg c4] at H
     exact absurd H (by simp)
   ·rw [if_neg c2] at H
    have c2b0 : decide (x3_1 < 4) = false := decide_eq_false c2
    clear c2
    obtain rfl := Option.some.inj H
    go_wp2
    go_ret
    exact ⟨by first | rfl | (simp; done) | (simp [*]; done), by repeat (first | exact Drawn0.refl _ | apply Drawn0.step)⟩
def impl_isDir.f (a0 : ByteArray) : Option (Bool) := if (a0.size : Int) = 1 then ((strings_Contains.f (⟨#[117, 114, 100, 108]⟩ : ByteArray) a0).bind fun t101 => (some t101)) else (some false)
set_option maxHeartbeats 8000000 in
set_option maxRecDepth 100000 in
theorem impl_isDir.calls (a0 : ByteArray) (r : Bool) (w : World) (h : impl_isDir.f a0 = some r) :
  Calls Tryd.prog 38 #[.string a0] w fun e w' => e = .returned (.bool r) ∧ Drawn0 w w' := by
 have H : (if (a0.size : Int) = 1 then ((strings_Contains.f (⟨#[117, 114, 100, 108]⟩ : ByteArray) a0).bind fun t101 => (some t101)) else (some false)) = some r := h
 clear h
 by_cases c2 : (a0.size : Int) = 1
 ·rw [if_pos c2] at H
  have c2b0 : ((a0.size : Int) == 1) = true := beq_iff_eq.mpr c2
  have c2b1 : ((a0.size : Int) != 1) = false := bne_eq_false_iff_eq.mpr c2
  clear c2
  replace H := Option.bind_eq_some_iff.mp H
  obtain ⟨t101, A30, H⟩ := H
  replace H : (some t101) = some r := H
  have A3 := Aside0.mk A30
  clear A30
  obtain rfl := Option.some.inj H
  go_enter Tryd.func38, Tryd.ntmps38
  go_wp2_with (first | (go_at_call 62; (with_reducible refine (strings_Contains.calls (⟨#[117, 114, 100, 108]⟩ : ByteArray) a0 t101 _ A3.out).mono ?_); rintro e w' ⟨rfl, ⟨nd, rfl⟩⟩))
  go_ret
  exact ⟨by first | rfl | (simp; done) | (simp [*]; done), by repeat (first | exact Drawn0.refl _ | apply Drawn0.step)⟩
 ·rw [if_neg c2] at H
  have c2b0 : ((a0.size : Int) == 1) = false := beq_eq_false_iff_ne.mpr c2
  have c2b1 : ((a0.size : Int) != 1) = true := bne_iff_ne.mpr c2
  obtain rfl := Option.some.inj H
  go_enter Tryd.func38, Tryd.ntmps38
  go_wp2
  go_ret
  exact ⟨by first | rfl | (simp; done) | (simp [*]; done), by repeat (first | exact Drawn0.refl _ | apply Drawn0.step)⟩
end Go.Proofs.YtohfcmhidjaohaaDoor.Q
end
section
namespace Go.Proofs.YtohfcmhidjaohaaDoor.Q
set_option linter.unusedSectionVars false
open Go.RowKit Go.Proofs.YtohfcmhidjaohaaDoorW.PrintWords Go.Proofs.YtohfcmhidjaohaaDoorW.PrintLast Go.Proofs.YtohfcmhidjaohaaDoorW.PrintMore
def dirB (d : Nat) : UInt8 := ([117, 114, 100, 108] : List UInt8).getD d 0
theorem toList_data (s : ByteArray) : s.toList = s.data.toList := by
 obtain ⟨⟨l⟩⟩ := s
 exact ByteArray.toList_mk l
theorem has_byte : ∀ (l : List UInt8) (c : UInt8), decide (0 ≤ Lib.indexByte l c) = decide (c ∈ l)
 | [], c => by simp [Lib.indexByte]
 | b :: l, c => by
  have ih := has_byte l c
  have hge := Lib.indexByte_ge l c
  unfold Lib.indexByte
  by_cases hb : b = c
  ·subst hb
   simp
  ·have h1 : (b == c) = false := by simpa using hb
   have h2 : (c ∈ b :: l) ↔ c ∈ l := by simp [Ne.symm hb]
   rw [h1, decide_eq_decide.2 h2, ← ih]
   rw [decide_eq_decide]
   rw [if_neg Bool.false_ne_true]
   by_cases h3 : Lib.indexByte l c = -1
   ·rw [h3]
    decide
   ·rw [show (Lib.indexByte l c == -1) = false by simpa using h3, if_neg Bool.false_ne_true]
    omega
def dirFrom (l : List UInt8) : Nat → Nat → Int
 | 0, _ => -1
 | m + 1, t => if l = [dirB t] then t else dirFrom l m (t + 1)
def dirI (s : ByteArray) : Int := dirFrom s.data.toList 4 0
theorem cut_toList : ∀ d : Fin 4, ((⟨#[117, 114, 100, 108]⟩ : ByteArray).extract ((d.val : Int)).toNat (((d.val + 1 : Nat) : Int)).toNat).toList = [dirB d.val] := by
 intro d
 rw [toList_data]
 revert d
 decide
theorem tiDir_l0 (s : ByteArray) : ∀ (m t : Nat), t + m = 4 → Ev (fun k => spec_tiDir.l0 k s t) (dirFrom s.data.toList m t)
 | 0, t, ht => by
  obtain rfl : t = 4 := by omega
  refine Ev.step (Ev.const (o := some (-1)) rfl) fun k => ?_
  rw [spec_tiDir.l0, if_neg (by decide)]
 | m + 1, t, ht => by
  have ih := tiDir_l0 s m (t + 1) (by omega)
  have ht4 : t < 4 := by omega
  have hwt : wrap64 ((t : Int) + 1) = ((t + 1 : Nat) : Int) := by rw [w64 (by omega) (by omega)]; omega
  have hcut := cut_toList ⟨t, ht4⟩
  simp only at hcut
  have hsz : ((⟨#[117, 114, 100, 108]⟩ : ByteArray).size : Int) = 4 := rfl
  unfold dirFrom
  have hgo : ∀ k, spec_tiDir.l0 (k + 1) s t = if s.data.toList = [dirB t] then some (t : Int) else spec_tiDir.l0 k s ((t + 1 : Nat) : Int) := by
   intro k
   rw [spec_tiDir.l0, if_pos (by omega), hwt]
   show (Option.some (⟨#[117, 114, 100, 108]⟩ : ByteArray)).bind _ = _
   rw [Option.bind_some, if_pos (by omega), if_pos (by omega), if_pos (by rw [hsz]; omega), hcut, toList_data]
  by_cases he : s.data.toList = [dirB t]
  ·rw [if_pos he]
   exact Ev.step (Ev.const (o := some (t : Int)) rfl) fun k => by rw [hgo, if_pos he]
  ·rw [if_neg he]
   exact Ev.step ih fun k => by rw [hgo, if_neg he]
theorem tiDir_ev (s : ByteArray) : Ev (fun k => spec_tiDir.f k s) (dirI s) := tiDir_l0 s 4 0 (by omega)
theorem dirI_cases (s : ByteArray) : (dirI s = -1 ∧ ∀ d : Nat, d < 4 → s.data.toList ≠ [dirB d]) ∨ ∃ d : Nat, d < 4 ∧ dirI s = d ∧ s.data.toList = [dirB d] := by
 unfold dirI dirFrom
 by_cases h0 : s.data.toList = [dirB 0]
 ·exact Or.inr ⟨0, by omega, by rw [if_pos h0], h0⟩
 rw [if_neg h0]
 unfold dirFrom
 by_cases h1 : s.data.toList = [dirB (0 + 1)]
 ·exact Or.inr ⟨1, by omega, by rw [if_pos h1], h1⟩
 rw [if_neg h1]
 unfold dirFrom
 by_cases h2 : s.data.toList = [dirB (0 + 1 + 1)]
 ·exact Or.inr ⟨2, by omega, by rw [if_pos h2], h2⟩
 rw [if_neg h2]
 unfold dirFrom
 by_cases h3 : s.data.toList = [dirB (0 + 1 + 1 + 1)]
 ·exact Or.inr ⟨3, by omega, by rw [if_pos h3], h3⟩
 rw [if_neg h3]
 refine Or.inl ⟨rfl, fun d hd => ?_⟩
 obtain h | h | h | h : d = 0 ∨ d = 1 ∨ d = 2 ∨ d = 3 := by omega
 ·subst h; exact h0
 ·subst h; exact h1
 ·subst h; exact h2
 ·subst h; exact h3
theorem one_byte_of {s : ByteArray} {b : UInt8} (h : s.data.toList = [b]) : s = ⟨#[b]⟩ := by
 obtain ⟨⟨l⟩⟩ := s
 simp at h
 subst h
 rfl
theorem dirB_mem : ∀ c : UInt8, c ∈ ([117, 114, 100, 108] : List UInt8) → ∃ d : Nat, d < 4 ∧ c = dirB d := by
 intro c hc
 simp only [List.mem_cons, List.not_mem_nil, or_false] at hc
 rcases hc with h | h | h | h
 ·exact ⟨0, by omega, h⟩
 ·exact ⟨1, by omega, h⟩
 ·exact ⟨2, by omega, h⟩
 ·exact ⟨3, by omega, h⟩
theorem isDir_eq (s : ByteArray) : impl_isDir.f s = some (decide (0 ≤ dirI s)) := by
 unfold impl_isDir.f
 rcases dirI_cases s with ⟨h1, h2⟩ | ⟨d, hd, h1, h2⟩
 ·rw [h1]
  by_cases hs : (s.size : Int) = 1
  ·rw [if_pos hs]
   have hs2 : s.size = 1 := by omega
   obtain ⟨c, rfl⟩ := Lib.one_byte s hs2
   unfold strings_Contains.f
   rw [if_pos (show (⟨#[c]⟩ : ByteArray).size = 1 from rfl), has_byte, Option.bind_some]
   congr 1
   show decide (c ∈ ([117, 114, 100, 108] : List UInt8)) = _
   rw [decide_eq_decide]
   constructor
   ·intro hc
    obtain ⟨d, hd, rfl⟩ := dirB_mem c hc
    exact absurd rfl (h2 d hd)
   ·intro h
    omega
  ·rw [if_neg hs]
   rfl
 ·obtain rfl := one_byte_of h2
  rw [h1, if_pos (show ((⟨#[dirB d]⟩ : ByteArray).size : Int) = 1 from rfl)]
  unfold strings_Contains.f
  rw [if_pos (show (⟨#[dirB d]⟩ : ByteArray).size = 1 from rfl), has_byte, Option.bind_some]
  congr 1
  rw [decide_eq_decide]
  constructor
  ·intro _
   omega
  ·intro _
   show dirB d ∈ ([117, 114, 100, 108] : List UInt8)
   obtain h | h | h | h : d = 0 ∨ d = 1 ∨ d = 2 ∨ d = 3 := by omega
   ·subst h; decide
   ·subst h; decide
   ·subst h; decide
   ·subst h; decide
end Go.Proofs.YtohfcmhidjaohaaDoor.Q
end
section
namespace Go.Proofs.YtohfcmhidjaohaaDoor.Q
open Go.RowKit Go.Proofs.YtohfcmhidjaohaaDoorW.PrintWords Go.Proofs.YtohfcmhidjaohaaDoorW.PrintLast Go.Proofs.YtohfcmhidjaohaaDoorW.PrintMore
attribute [local go_sem] max2_int min2_int max_two min_two max_three min_three max_four min_four
set_option linter.unusedVariables false
set_option linter.unusedSimpArgs false
def spec_tiRead.f (k : Nat) (a0 : ByteArray) (a1 : ByteArray) : Option (Int × Int × List Int × Int × Bool) := (spec_tyRead.f k a0).bind fun bt102 => ((spec_tiDir.f k a1).bind fun t109 => (if bt102.2.2.2 = true then (some (bt102.1, bt102.2.1, bt102.2.2.1, t109, decide (t109 ≥ 0))) else (some (bt102.1, bt102.2.1, bt102.2.2.1, t109, false))))
set_option maxHeartbeats 8000000 in
set_option maxRecDepth 100000 in
theorem spec_tiRead.calls (k : Nat) (a0 : ByteArray) (a1 : ByteArray) (r1 : Int) (r2 : Int) (r3 : List Int) (r4 : Int) (r5 : Bool) (w : World) (h : spec_tiRead.f k a0 a1 = some (r1, r2, r3, r4, r5)) :
  Calls Tryd.prog 27 #[.string a0, .string a1] w fun e w' => ∃ v2_ : Value, e = .returned (.tuple #[.agg #[.int .i64 r1, .int .i64 r2, v2_], .int .i64 r4, .bool r5]) ∧ Kd.R (Kd.int .u8) 5 w' w.heap.size (fun _ => True) v2_ r3 ∧ Below w.heap.size w w' := by
 have hu37 := Tryd.underlying37
 have HB := Aside0.mk (Below.refl w.heap.size w)
 have H : ((spec_tyRead.f k a0).bind fun bt102 => ((spec_tiDir.f k a1).bind fun t109 => (if bt102.2.2.2 = true then (some (bt102.1, bt102.2.1, bt102.2.2.1, t109, decide (t109 ≥ 0))) else (some (bt102.1, bt102.2.1, bt102.2.2.1, t109, false))))) = some (r1, r2, r3, r4, r5) := h
 clear h
 replace H := Option.bind_eq_some_iff.mp H
 obtain ⟨⟨t102, t103, t104, t107⟩, A30, H⟩ := H
 replace H : ((spec_tiDir.f k a1).bind fun t109 => (if t107 = true then (some (t102, t103, t104, t109, decide (t109 ≥ 0))) else (some (t102, t103, t104, t109, false)))) = some (r1, r2, r3, r4, r5) := H
 have A3 := Aside0.mk A30
 clear A30
 replace H := Option.bind_eq_some_iff.mp H
 obtain ⟨t109, A40, H⟩ := H
 replace H : (if t107 = true then (some (t102, t103, t104, t109, decide (t109 ≥ 0))) else (some (t102, t103, t104, t109, false))) = some (r1, r2, r3, r4, r5) := H
 have A4 := Aside0.mk A40
 clear A40
 by_cases c5 : t107 = true
 ·subst c5
  have H1 : (some (t102, t103, t104, t109, decide (t109 ≥ 0))) = some (r1, r2, r3, r4, r5) := by rw [if_pos rfl] at H; exact H
  clear H
  have H := H1
  clear H1
  simp only [Option.some.injEq, Prod.mk.injEq] at H
  obtain ⟨rfl, rfl, rfl, rfl, rfl⟩ := H
  go_enter Tryd.func27, Tryd.ntmps27
  go_wp2_with (first | ((with_reducible refine gate_dst (N := 4) rfl ?_); refine boxE (N := 4) (cs := #[.int .i64 0, .int .i64 0, .slice none 0 0]) (t := 37) ?_; intro gb101 hg w6 hbox hb; have n0_ := Aside0.mk (below_step (bel HB) hb); have n1_ := Aside0.mk (hbox); have n2_ := Aside0.mk (gsz hg (bel HB)); have n3_ := Aside0.mk (gsz hg (bel HB)); clear HB; have HB := n0_; have BK101 := n1_; have GW101 := n2_; have GE101 := n3_; clear n0_ n1_ n2_ n3_; clear hb hbox hg) | ((with_reducible refine gate_callee (f := 42) rfl ?_); refine gcall (some 12) Tryd.func42 #[.string a0] rfl ?_; (with_reducible refine (spec_tyRead.calls k a0 t102 t103 t104 true _ A3.out).mono ?_); rintro e w7 ⟨v105, rfl, ho0, hb⟩; refine ⟨_, rfl, ?_⟩; have n0_ := Aside0.mk (Kd.R_lower ho0 (below_size (bel HB))); have n1_ := Aside0.mk (blk_below (g := gb101) (o := .cells #[.int .i64 0, .int .i64 0, .slice none 0 0] 37 (0, 0)) blc hb); have n2_ := Aside0.mk (below_step (bel HB) hb); clear BK101; clear HB; have HO106 := n0_; have BK101 := n1_; have HB := n2_; clear n0_ n1_ n2_; (try clear hb); (try clear hb2); (try clear hk); (try clear hi); (try clear ho0)) | ((with_reducible refine gate_dst (N := 7) rfl ?_); refine boxE (N := 7) (cs := #[.int .i64 0, .int .i64 0, .slice none 0 0]) (t := 37) ?_; intro gb108 hg w8 hbox hb; have n0_ := Aside0.mk (Kd.R_below (rch HO106) hb); have n1_ := Aside0.mk (blk_below (g := gb101) (o := .cells #[.int .i64 0, .int .i64 0, .slice none 0 0] 37 (0, 0)) blc hb); have n2_ := Aside0.mk (below_step (bel HB) hb); have n3_ := Aside0.mk (hbox); have n4_ := Aside0.mk (gsz hg (bel HB)); have n5_ := Aside0.mk (gsz hg (bel HB)); have n6_ := Aside0.mk ((by rw [hg]; exact Nat.ne_of_lt (blk_lt (g := gb101) (o := .cells #[.int .i64 0, .int .i64 0, .slice none 0 0] 37 (0, 0)) blc) : gb101 ≠ gb108)); have n7_ := Aside0.mk ((by rw [hg]; exact Nat.ne_of_gt (blk_lt (g := gb101) (o := .cells #[.int .i64 0, .int .i64 0, .slice none 0 0] 37 (0, 0)) blc) : gb108 ≠ gb101)); clear HO106; clear BK101; clear HB; have HO106 := n0_; have BK101 := n1_; have HB := n2_; have BK108 := n3_; have GW108 := n4_; have GE108 := n5_; have NB101_108 := n6_; have NB108_101 := n7_; clear n0_ n1_ n2_ n3_ n4_ n5_ n6_ n7_; clear hb hbox hg; have hnb9 := NB108_101.out; have hnc9 := NB101_108.out; have hcz10_0 : w8.cell? ⟨gb108, 0, none⟩ = some (.int .i64 0) := (blk_cell BK108.out 0).trans rfl; have hcz10_1 : w8.cell? ⟨gb108, 1, none⟩ = some (.int .i64 0) := (blk_cell BK108.out 1).trans rfl; have hcz10_2 : w8.cell? ⟨gb108, 2, none⟩ = some (.slice none 0 0) := (blk_cell BK108.out 2).trans rfl; have hfz10_0 := blk_frozen BK108.out 0; have hfz10_1 := blk_frozen BK108.out 1; have hfz10_2 := blk_frozen BK108.out 2; obtain ⟨Ao11, co11, eo11⟩ := Kd.R_slice HO106.out; subst eo11) | ((with_reducible refine gate_callee (f := 36) rfl ?_); refine gcall (some 16) Tryd.func36 #[.string a1] rfl ?_; (with_reducible refine (spec_tiDir.calls k a1 t109 _ A4.out).mono ?_); rintro e w' ⟨rfl, ⟨nd, rfl⟩⟩; refine ⟨_, rfl, ?_⟩; have hcz12_0 : w8.cell? ⟨gb101, 0, none⟩ = some (.int .i64 0) := (blk_cell BK101.out 0).trans rfl; have hcz12_1 : w8.cell? ⟨gb101, 1, none⟩ = some (.int .i64 0) := (blk_cell BK101.out 1).trans rfl; have hcz12_2 : w8.cell? ⟨gb101, 2, none⟩ = some (.slice none 0 0) := (blk_cell BK101.out 2).trans rfl; have hfz12_0 := blk_frozen BK101.out 0; have hfz12_1 := blk_frozen BK101.out 1; have hfz12_2 := blk_frozen BK101.out 2))
  refine bodyPost_ret (results_ctt rfl _ _ gb101 37 #[.int .i64 t102, .int .i64 t103, .slice Ao11 t104.length co11] (0, 0) _ rfl (by (with_reducible repeat (first | refine blk_drewN ?_ _ | refine blk_drew ?_ | refine blk_alloc ?_ _)); refine blk_put (cs := #[.int .i64 t102, .int .i64 t103, .slice none 0 0]) ?_ 2 _ rfl; (with_reducible repeat (first | refine blk_drewN ?_ _ | refine blk_drew ?_ | refine blk_alloc ?_ _)); refine blk_put (cs := #[.int .i64 t102, .int .i64 0, .slice none 0 0]) ?_ 1 _ rfl; (with_reducible repeat (first | refine blk_drewN ?_ _ | refine blk_drew ?_ | refine blk_alloc ?_ _)); refine blk_put (cs := #[.int .i64 0, .int .i64 0, .slice none 0 0]) ?_ 0 _ rfl; (with_reducible repeat (first | refine blk_drewN ?_ _ | refine blk_drew ?_ | refine blk_alloc ?_ _)); refine blk_far ?_ NB101_108.out _; (with_reducible repeat (first | refine blk_drewN ?_ _ | refine blk_drew ?_ | refine blk_alloc ?_ _)); refine blk_far ?_ NB101_108.out _; (with_reducible repeat (first | refine blk_drewN ?_ _ | refine blk_drew ?_ | refine blk_alloc ?_ _)); refine blk_far ?_ NB101_108.out _; exact blc) Tryd.underlying37 rfl (by kernel_rfl)) rfl ?_
  exact ⟨_, by first | rfl | (simp [errW_none, errW_some] <;> rfl) | (simp [*, errW_none, errW_some] <;> rfl), by (with_reducible repeat (first | apply Kd.R_alloc | apply Kd.R_drewN | apply Kd.R_drew)); exact Kd.R_mono (Kd.R_far (p := ⟨gb101, 2, none⟩) (Kd.R_far (p := ⟨gb101, 1, none⟩) (Kd.R_far (p := ⟨gb101, 0, none⟩) (Kd.R_far (p := ⟨gb108, 2, none⟩) (Kd.R_far (p := ⟨gb108, 1, none⟩) (Kd.R_far (p := ⟨gb108, 0, none⟩) (Kd.R_types (Kd.R_types HO106.out BK108.out (by decide)) BK101.out (by decide)) (fun _ hk => hk.1.2) (.int .i64 t102)) (fun _ hk => hk.1.2) (.int .i64 t103)) (fun _ hk => hk.1.2) (.slice Ao11 t104.length co11)) (fun _ hk => hk.2) (.int .i64 t102)) (fun _ hk => hk.2) (.int .i64 t103)) (fun _ hk => hk.2) (.slice Ao11 t104.length co11)) (fun _ hk => trivial), bel HB⟩
 ·replace c5 := Bool.eq_false_iff.mpr c5
  subst c5
  have H1 : (some (t102, t103, t104, t109, false)) = some (r1, r2, r3, r4, r5) := by rw [if_neg (show ¬ (false = true) by decide)] at H; exact H
  clear H
  have H := H1
  clear H1
  simp only [Option.some.injEq, Prod.mk.injEq] at H
  obtain ⟨rfl, rfl, rfl, rfl, rfl⟩ := H
  go_enter Tryd.func27, Tryd.ntmps27
  go_wp2_with (first | ((with_reducible refine gate_dst (N := 4) rfl ?_); refine boxE (N := 4) (cs := #[.int .i64 0, .int .i64 0, .slice none 0 0]) (t := 37) ?_; intro gb101 hg w13 hbox hb; have n0_ := Aside0.mk (below_step (bel HB) hb); have n1_ := Aside0.mk (hbox); have n2_ := Aside0.mk (gsz hg (bel HB)); have n3_ := Aside0.mk (gsz hg (bel HB)); clear HB; have HB := n0_; have BK101 := n1_; have GW101 := n2_; have GE101 := n3_; clear n0_ n1_ n2_ n3_; clear hb hbox hg) | ((with_reducible refine gate_callee (f := 42) rfl ?_); refine gcall (some 12) Tryd.func42 #[.string a0] rfl ?_; (with_reducible refine (spec_tyRead.calls k a0 t102 t103 t104 false _ A3.out).mono ?_); rintro e w14 ⟨v105, rfl, ho0, hb⟩; refine ⟨_, rfl, ?_⟩; have n0_ := Aside0.mk (Kd.R_lower ho0 (below_size (bel HB))); have n1_ := Aside0.mk (blk_below (g := gb101) (o := .cells #[.int .i64 0, .int .i64 0, .slice none 0 0] 37 (0, 0)) blc hb); have n2_ := Aside0.mk (below_step (bel HB) hb); clear BK101; clear HB; have HO106 := n0_; have BK101 := n1_; have HB := n2_; clear n0_ n1_ n2_; (try clear hb); (try clear hb2); (try clear hk); (try clear hi); (try clear ho0)) | ((with_reducible refine gate_dst (N := 7) rfl ?_); refine boxE (N := 7) (cs := #[.int .i64 0, .int .i64 0, .slice none 0 0]) (t := 37) ?_; intro gb108 hg w15 hbox hb; have n0_ := Aside0.mk (Kd.R_below (rch HO106) hb); have n1_ := Aside0.mk (blk_below (g := gb101) (o := .cells #[.int .i64 0, .int .i64 0, .slice none 0 0] 37 (0, 0)) blc hb); have n2_ := Aside0.mk (below_step (bel HB) hb); have n3_ := Aside0.mk (hbox); have n4_ := Aside0.mk (gsz hg (bel HB)); have n5_ := Aside0.mk (gsz hg (bel HB)); have n6_ := Aside0.mk ((by rw [hg]; exact Nat.ne_of_lt (blk_lt (g := gb101) (o := .cells #[.int .i64 0, .int .i64 0, .slice none 0 0] 37 (0, 0)) blc) : gb101 ≠ gb108)); have n7_ := Aside0.mk ((by rw [hg]; exact Nat.ne_of_gt (blk_lt (g := gb101) (o := .cells #[.int .i64 0, .int .i64 0, .slice none 0 0] 37 (0, 0)) blc) : gb108 ≠ gb101)); clear HO106; clear BK101; clear HB; have HO106 := n0_; have BK101 := n1_; have HB := n2_; have BK108 := n3_; have GW108 := n4_; have GE108 := n5_; have NB101_108 := n6_; have NB108_101 := n7_; clear n0_ n1_ n2_ n3_ n4_ n5_ n6_ n7_; clear hb hbox hg; have hnb16 := NB108_101.out; have hnc16 := NB101_108.out; have hcz17_0 : w15.cell? ⟨gb108, 0, none⟩ = some (.int .i64 0) := (blk_cell BK108.out 0).trans rfl; have hcz17_1 : w15.cell? ⟨gb108, 1, none⟩ = some (.int .i64 0) := (blk_cell BK108.out 1).trans rfl; have hcz17_2 : w15.cell? ⟨gb108, 2, none⟩ = some (.slice none 0 0) := (blk_cell BK108.out 2).trans rfl; have hfz17_0 := blk_frozen BK108.out 0; have hfz17_1 := blk_frozen BK108.out 1; have hfz17_2 := blk_frozen BK108.out 2; obtain ⟨Ao18, co18, eo18⟩ := Kd.R_slice HO106.out; subst eo18) | ((with_reducible refine gate_callee (f := 36) rfl ?_); refine gcall (some 16) Tryd.func36 #[.string a1] rfl ?_; (with_reducible refine (spec_tiDir.calls k a1 t109 _ A4.out).mono ?_); rintro e w' ⟨rfl, ⟨nd, rfl⟩⟩; refine ⟨_, rfl, ?_⟩; have hcz19_0 : w15.cell? ⟨gb101, 0, none⟩ = some (.int .i64 0) := (blk_cell BK101.out 0).trans rfl; have hcz19_1 : w15.cell? ⟨gb101, 1, none⟩ = some (.int .i64 0) := (blk_cell BK101.out 1).trans rfl; have hcz19_2 : w15.cell? ⟨gb101, 2, none⟩ = some (.slice none 0 0) := (blk_cell BK101.out 2).trans rfl; have hfz19_0 := blk_frozen BK101.out 0; have hfz19_1 := blk_frozen BK101.out 1; have hfz19_2 := blk_frozen BK101.out 2))
  refine bodyPost_ret (results_ctt rfl _ _ gb101 37 #[.int .i64 t102, .int .i64 t103, .slice Ao18 t104.length co18] (0, 0) _ rfl (by (with_reducible repeat (first | refine blk_drewN ?_ _ | refine blk_drew ?_ | refine blk_alloc ?_ _)); refine blk_put (cs := #[.int .i64 t102, .int .i64 t103, .slice none 0 0]) ?_ 2 _ rfl; (with_reducible repeat (first | refine blk_drewN ?_ _ | refine blk_drew ?_ | refine blk_alloc ?_ _)); refine blk_put (cs := #[.int .i64 t102, .int .i64 0, .slice none 0 0]) ?_ 1 _ rfl; (with_reducible repeat (first | refine blk_drewN ?_ _ | refine blk_drew ?_ | refine blk_alloc ?_ _)); refine blk_put (cs := #[.int .i64 0, .int .i64 0, .slice none 0 0]) ?_ 0 _ rfl; (with_reducible repeat (first | refine blk_drewN ?_ _ | refine blk_drew ?_ | refine blk_alloc ?_ _)); refine blk_far ?_ NB101_108.out _; (with_reducible repeat (first | refine blk_drewN ?_ _ | refine blk_drew ?_ | refine blk_alloc ?_ _)); refine blk_far ?_ NB101_108.out _; (with_reducible repeat (first | refine blk_drewN ?_ _ | refine blk_drew ?_ | refine blk_alloc ?_ _)); refine blk_far ?_ NB101_108.out _; exact blc) Tryd.underlying37 rfl (by kernel_rfl)) rfl ?_
  exact ⟨_, by first | rfl | (simp [errW_none, errW_some] <;> rfl) | (simp [*, errW_none, errW_some] <;> rfl), by (with_reducible repeat (first | apply Kd.R_alloc | apply Kd.R_drewN | apply Kd.R_drew)); exact Kd.R_mono (Kd.R_far (p := ⟨gb101, 2, none⟩) (Kd.R_far (p := ⟨gb101, 1, none⟩) (Kd.R_far (p := ⟨gb101, 0, none⟩) (Kd.R_far (p := ⟨gb108, 2, none⟩) (Kd.R_far (p := ⟨gb108, 1, none⟩) (Kd.R_far (p := ⟨gb108, 0, none⟩) (Kd.R_types (Kd.R_types HO106.out BK108.out (by decide)) BK101.out (by decide)) (fun _ hk => hk.1.2) (.int .i64 t102)) (fun _ hk => hk.1.2) (.int .i64 t103)) (fun _ hk => hk.1.2) (.slice Ao18 t104.length co18)) (fun _ hk => hk.2) (.int .i64 t102)) (fun _ hk => hk.2) (.int .i64 t103)) (fun _ hk => hk.2) (.slice Ao18 t104.length co18)) (fun _ hk => trivial), bel HB⟩
def impl_isTilted.f (k : Nat) (a0 : ByteArray) (a1 : ByteArray) : Option (Bool) := (impl_IsTray.f k a0).bind fun t101 => (if t101 = true then ((impl_isDir.f a1).bind fun t102 => (some t102)) else (some false))
set_option maxHeartbeats 8000000 in
set_option maxRecDepth 100000 in
theorem impl_isTilted.calls (k : Nat) (a0 : ByteArray) (a1 : ByteArray) (r : Bool) (w : World) (hG : GoodW w) (h : impl_isTilted.f k a0 a1 = some r) :
  Calls Tryd.prog 29 #[.string a0, .string a1] w fun e w' => e = .returned (.bool r) ∧ Below w.heap.size w w' := by
 have HG := Aside0.mk hG
 clear hG
 have HB := Aside0.mk (Below.refl w.heap.size w)
 have H : ((impl_IsTray.f k a0).bind fun t101 => (if t101 = true then ((impl_isDir.f a1).bind fun t102 => (some t102)) else (some false))) = some r := h
 clear h
 replace H := Option.bind_eq_some_iff.mp H
 obtain ⟨t101, A30, H⟩ := H
 replace H : (if t101 = true then ((impl_isDir.f a1).bind fun t102 => (some t102)) else (some false)) = some r := H
 have A3 := Aside0.mk A30
 clear A30
 by_cases c4 : t101 = true
 ·subst c4
  have H1 : ((impl_isDir.f a1).bind fun t102 => (some t102)) = some r := by rw [if_pos rfl] at H; exact H
  clear H
  have H := H1
  clear H1
  replace H := Option.bind_eq_some_iff.mp H
  obtain ⟨t102, A50, H⟩ := H
  replace H : (some t102) = some r := H
  have A5 := Aside0.mk A50
  clear A50
  obtain rfl := Option.some.inj H
  go_enter Tryd.func29, Tryd.ntmps29
  go_wp2_with (first | ((with_reducible refine gate_callee (f := 46) rfl ?_); refine gcall (some 6) Tryd.func46 #[.string a0] rfl ?_; (with_reducible refine (impl_IsTray.calls k a0 true _ ?side1 A3.out).mono ?_); (case side1 => (refine GoodW.below HG.out ?_); exact bel HB); rintro e w6 ⟨rfl, hb⟩; refine ⟨_, rfl, ?_⟩; have n0_ := Aside0.mk (below_step (bel HB) hb); clear HB; have HB := n0_; clear n0_; (try clear hb); (try clear hb2); (try clear hk); (try clear hi)) | (go_at_call 38; (with_reducible refine (impl_isDir.calls a1 t102 _ A5.out).mono ?_); rintro e w' ⟨rfl, ⟨nd, rfl⟩⟩))
  go_ret
  exact ⟨by first | rfl | (simp [errW_none, errW_some] <;> rfl) | (simp [*, errW_none, errW_some] <;> rfl), bel HB⟩
 ·replace c4 := Bool.eq_false_iff.mpr c4
  subst c4
  have H1 : (some false) = some r := by rw [if_neg (show ¬ (false = true) by decide)] at H; exact H
  clear H
  have H := H1
  clear H1
  obtain rfl := Option.some.inj H
  go_enter Tryd.func29, Tryd.ntmps29
  go_wp2_with (first | ((with_reducible refine gate_callee (f := 46) rfl ?_); refine gcall (some 6) Tryd.func46 #[.string a0] rfl ?_; (with_reducible refine (impl_IsTray.calls k a0 false _ ?side1 A3.out).mono ?_); (case side1 => (refine GoodW.below HG.out ?_); exact bel HB); rintro e w7 ⟨rfl, hb⟩; refine ⟨_, rfl, ?_⟩; have n0_ := Aside0.mk (below_step (bel HB) hb); clear HB; have HB := n0_; clear n0_; (try clear hb); (try clear hb2); (try clear hk); (try clear hi)))
  go_ret
  exact ⟨by first | rfl | (simp [errW_none, errW_some] <;> rfl) | (simp [*, errW_none, errW_some] <;> rfl), bel HB⟩
end Go.Proofs.YtohfcmhidjaohaaDoor.Q
end
section
namespace Go.Proofs.YtohfcmhidjaohaaDoor.Q
set_option linter.unusedSectionVars false
open Go.RowKit Go.Proofs.YtohfcmhidjaohaaDoorW.PrintWords Go.Proofs.YtohfcmhidjaohaaDoorW.PrintLast Go.Proofs.YtohfcmhidjaohaaDoorW.PrintMore
theorem isTilted_ev (t s : ByteArray) (ht : t.size ≤ 1048576) : Ev (fun k => impl_isTilted.f k t s) ((trayOf t).isSome && decide (0 ≤ dirI s)) := by
 refine Ev.bind (f := fun _ (t101 : Bool) => (if t101 = true then ((impl_isDir.f s).bind fun t102 => (some t102)) else (some false))) (isTray_ev t ht) (Ev.const ?_)
 by_cases h : (trayOf t).isSome = true
 ·rw [if_pos h, h, isDir_eq]
  rfl
 ·rw [if_neg h, Bool.eq_false_iff.2 h]
  rfl
theorem tiRead_ev (t s : ByteArray) : Ev (fun k => spec_tiRead.f k t s) (match trayOf t with | none => (0, 0, [], dirI s, false) | some (w, h, cs) => (w, h, cs, dirI s, decide (0 ≤ dirI s))) := by
 refine Ev.bind (f := fun k (bt102 : Int × Int × List Int × Bool) => ((spec_tiDir.f k s).bind fun t109 => (if bt102.2.2.2 = true then (some (bt102.1, bt102.2.1, bt102.2.2.1, t109, decide (t109 ≥ 0))) else (some (bt102.1, bt102.2.1, bt102.2.2.1, t109, false))))) (tyRead_ev t) ?_
 refine Ev.bind (tiDir_ev s) (Ev.const ?_)
 rcases trayOf t with _ | ⟨w, h, cs⟩
 ·rfl
 ·rfl
theorem dirI_nat {s : ByteArray} (h : 0 ≤ dirI s) : ∃ d : Nat, d < 4 ∧ dirI s = d ∧ s = ⟨#[dirB d]⟩ := by
 rcases dirI_cases s with ⟨e, _⟩ | ⟨d, hd4, e, e2⟩
 ·omega
 ·exact ⟨d, hd4, e, one_byte_of e2⟩
theorem bt_dir : ∀ d : Fin 4, (0 : Int) < ((⟨#[dirB d.val]⟩ : ByteArray).size : Int) ∧ bt (⟨#[dirB d.val]⟩ : ByteArray) 0 = dirC d.val := by decide
end Go.Proofs.YtohfcmhidjaohaaDoor.Q
end
section
namespace Go.Proofs.YtohfcmhidjaohaaDoor.Q
open Go.RowKit Go.Proofs.YtohfcmhidjaohaaDoorW.PrintWords Go.Proofs.YtohfcmhidjaohaaDoorW.PrintLast Go.Proofs.YtohfcmhidjaohaaDoorW.PrintMore
attribute [local go_sem] max2_int min2_int max_two min_two max_three min_three max_four min_four
set_option linter.unusedVariables false
set_option linter.unusedSimpArgs false
def impl_bit.f (a0 : Bool) : Option (Int) := if a0 = true then (some 1) else (some 0)
set_option maxHeartbeats 8000000 in
set_option maxRecDepth 100000 in
theorem impl_bit.calls (a0 : Bool) (r : Int) (w : World) (h : impl_bit.f a0 = some r) :
  Calls Tryd.prog 50 #[.bool a0] w fun e w' => e = .returned (.int .i64 r) ∧ Drawn0 w w' := by
 have H : (if a0 = true then (some 1) else (some 0)) = some r := h
 clear h
 by_cases c2 : a0 = true
 ·subst c2
  have H1 : (some 1) = some r := by rw [if_pos rfl] at H; exact H
  clear H
  have H := H1
  clear H1
  obtain rfl := Option.some.inj H
  go_enter Tryd.func50, Tryd.ntmps50
  go_wp2
  go_ret
  exact ⟨by first | rfl | (simp; done) | (simp [*]; done), by repeat (first | exact Drawn0.refl _ | apply Drawn0.step)⟩
 ·replace c2 := Bool.eq_false_iff.mpr c2
  subst c2
  have H1 : (some 0) = some r := by rw [if_neg (show ¬ (false = true) by decide)] at H; exact H
  clear H
  have H := H1
  clear H1
  obtain rfl := Option.some.inj H
  go_enter Tryd.func50, Tryd.ntmps50
  go_wp2
  go_ret
  exact ⟨by first | rfl | (simp; done) | (simp [*]; done), by repeat (first | exact Drawn0.refl _ | apply Drawn0.step)⟩
end Go.Proofs.YtohfcmhidjaohaaDoor.Q
end
section
namespace Go.Proofs.YtohfcmhidjaohaaDoor.Q
set_option linter.unusedSectionVars false
open Go.RowKit Go.Proofs.YtohfcmhidjaohaaDoorW.PrintWords Go.Proofs.YtohfcmhidjaohaaDoorW.PrintLast Go.Proofs.YtohfcmhidjaohaaDoorW.PrintMore
def neG (x c : Int) : Int := if x = c then 0 else 1
def impl_MovedBalls.f (k : Nat) (a0 a1 : ByteArray) : Option (Int × Bool) :=
 (impl_isTilted.f k a0 a1).bind fun b => if b = true then (impl_read.f a0).bind fun g => if 0 < (a1.size : Int) then (impl_tray_slide.f k g.1 g.2.1 g.2.2 (bt a1 0)).bind fun m => if g.2.2.length ≤ 1000 ∧ fitsB m g.2.2.length = true then some (sumG g.2.2.length (asF m) neG (fun _ => true), true) else none else none else some (0, false)
theorem ranges_below {w w' : World} {b r n cnt : Nat} {D : DataW Unit} {left : Lit → Bool} (h : w.ranges Tryd.prog 3 PE b r n D left cnt) (hb : Below w.heap.size w w') : w'.ranges Tryd.prog 3 PE b r n D left cnt := by
 obtain ⟨es, clock, since, seen, c0, h1, F, hs, hD, h2, rest⟩ := h
 exact ⟨es, clock, since, seen, c0, (hb.block b (Array.getElem?_eq_some_iff.1 h1).1).trans h1, F, hs, hD, (hb.block r (Array.getElem?_eq_some_iff.1 h2).1).trans h2, rest⟩
theorem bit_ne (x c : Int) : impl_bit.f (x != c) = some (neG x c) := by
 unfold impl_bit.f neG
 by_cases h : x = c
 ·rw [if_pos h, h, bne_self_eq_false, if_neg (by decide)]
 ·rw [if_neg h, if_pos (bne_iff_ne.2 h)]
theorem neG_le (x c : Int) : 0 ≤ neG x c ∧ neG x c ≤ 4000 := by
 unfold neG
 split <;> omega
set_option maxHeartbeats 16000000 in
set_option maxRecDepth 100000 in
theorem impl_MovedBalls.calls (k : Nat) (a0 : ByteArray) (a1 : ByteArray) (r1 : Int) (r2 : Bool) (w : World) (hG : GoodW w) (h : impl_MovedBalls.f k a0 a1 = some (r1, r2)) :
  Calls Tryd.prog 24 #[.string a0, .string a1] w fun e w' => e = .returned (.tuple #[.int .i64 r1, .bool r2]) ∧ Below w.heap.size w w' := by
 unfold impl_MovedBalls.f at h
 obtain ⟨b, hb, h⟩ := Option.bind_eq_some_iff.1 h
 have HG := Aside0.mk hG
 have HT := Aside0.mk hb
 clear hG hb
 cases b with
 | false =>
  rw [if_neg (by decide)] at h
  simp only [Option.some.injEq, Prod.mk.injEq] at h
  obtain ⟨rfl, rfl⟩ := h
  go_enter Tryd.func24, Tryd.ntmps24
  go_wp2_with (first | (go_at_call 29; refine (impl_isTilted.calls k a0 a1 false _ HG.out HT.out).mono ?_; rintro e w2 ⟨rfl, hb2⟩; (have HB := Aside0.mk hb2)))
  go_ret2
  exact ⟨rfl, HB.out⟩
 | true =>
  rw [if_pos rfl] at h
  obtain ⟨⟨gw, gh, gc⟩, hr, h⟩ := Option.bind_eq_some_iff.1 h
  simp only at h
  split at h
  case isFalse => cases h
  rename_i hsz
  obtain ⟨m, hm, h⟩ := Option.bind_eq_some_iff.1 h
  split at h
  case isFalse => cases h
  rename_i hcond
  simp only [Option.some.injEq, Prod.mk.injEq] at h
  obtain ⟨rfl, rfl⟩ := h
  have HRD := Aside0.mk hr
  have HP := Aside0.mk hm
  have HCD := Aside0.mk hcond
  have q7 : 0 < a1.size := by omega
  have hx7 : ∀ h : 0 < a1.size, ((a1[0]'h).toNat : Int) = bt a1 0 := bt_at a1 0
  have qi7 : (0 < (a1.size : Int)) = True := eq_true hsz
  replace q7 := eq_true q7
  clear hr hm hcond hsz
  go_enter Tryd.func24, Tryd.ntmps24
  go_wp2_with (first | (go_at_call 29; refine (impl_isTilted.calls k a0 a1 true _ HG.out HT.out).mono ?_; rintro e w2 ⟨rfl, hb2⟩; (have HB := Aside0.mk hb2)))
  go_region_with (first
   | (refine (impl_read.calls a0 gw gh gc _ (GoodW.below HG.out (below_drew1 HB.out)) HRD.out).mono ?_; rintro e w3 ⟨v2, rfl, ho, hb3⟩; (obtain ⟨Av, cv, ev⟩ := Kd.V_slice ho); subst ev; (have HB3 := Aside0.mk (below_then (below_drew1 HB.out) (below_drew1 HB.out).size hb3)); (have HO3 := Aside0.mk ho); clear ho hb3)
   | (refine (impl_tray_slide.calls k gw gh Av cv gc (bt a1 0) m _ (Kd.V_reads' HO3.out).2.2 (Kd.V_reads' HO3.out).2.1 HP.out).mono ?_; rintro e w4 ⟨bm, rfl, hbm, hM, hb4⟩; (have HB4 := Aside0.mk (below_then HB3.out HB3.out.size hb4)); (obtain ⟨D, hown, hh⟩ := hM); (obtain ⟨w5, hrun, hrg, hg5, hs5⟩ := hown.range keyI Tryd.underlying60); (have HH := Aside0.mk hh); (have HRG := Aside0.mk hrg); (have HB5 := Aside0.mk (below_then HB4.out HB4.out.size (below_none hg5))); (have HRB := Aside0.mk HB4.out.size); clear hb4 hown hh hrg hg5 hs5))
  all_goals
   have HF := Aside0.mk (fits_tilt HCD.out.2)
   have HS0 := Aside0.mk (sumG_start HH.out gc.length neG)
   clear HB HB3 HB4 hrun HO3
   generalize w4.heap.size = ri at HRG HRB ⊢
   try go_wp2
   go_loopg [6] (Maps.size D) (fun gg v6 wr => ∃ (left : Lit → Bool) (cnt : Nat), v6 = .int .i64 (sumG gc.length (asF m) neG (cameL left)) ∧ Aside0 (cnt ≤ gg) ∧ Aside0 (wr.ranges Tryd.prog 3 PE bm ri m.length D left cnt) ∧ Aside0 (Below w.heap.size w wr))
   case atStart => exact ⟨_, _, by rw [HS0.out], ⟨Nat.le_refl _⟩, HRG, HB5⟩
   case round =>
    clear HRG HB5
    obtain ⟨left, cnt, rfl, HCN, HRG, HB⟩ := hrel
    go_wp2_with (first
     | (at_next; refine wpList_next_ranges_ii _ rfl _ rfl 3 3 .i64 .i64 keyI Tryd.underlying3 Tryd.underlying3 bm ri m.length _ _ _ rfl HRG.out ?_ ?_))
    ·intro _ hl0
     have hce := came_end left hl0
     rw [hce]
     clear HCN HRG hl0 hce
     go_wp2
     go_ret2
     exact ⟨rfl, HB.out⟩
    ·intro x cx w7 cnt1 hwx hwc hlx hat hrg1 hlt hg1 hs1 hen1
     have hfx := HH.out.some hat
     obtain ⟨x0, x1, cx0, cx1⟩ := HF.out.dom x cx hfx
     have hcn : (cameL left x) = false := by
      unfold cameL
      rw [show left (lk x) = true from hlx]
      rfl
     have hst := sumG_step gc.length (asF m) neG (cameL left) x cx hfx x0 x1 hcn
     rw [← came_step left x] at hst
     have HST := Aside0.mk (show sumG gc.length (asF m) neG (cameL fun z => left z && !z.sameKey (.int .i64 x)) = sumG gc.length (asF m) neG (cameL left) + neG x cx from hst)
     have HB7 := Aside0.mk (below_grown HB.out hg1 (fun k e => by cases e; exact HRB.out))
     have HRG7 := Aside0.mk hrg1
     have HCN7 := Aside0.mk (show cnt1 < gk by have := HCN.out; omega)
     clear hst hfx hat hrg1 hlt hg1 hs1 HRG HCN hlx hwx hwc hcn HB x0 x1 cx0 cx1
     go_wp2_with fail
     refine (impl_bit.calls (x != cx) (neG x cx) _ (bit_ne x cx)).mono ?_
     rintro e w8 ⟨rfl, hd8⟩
     have hS := sumG_le gc.length (asF m) neG (cameL left) fun y c _ => neG_le y c
     have hN := neG_le x cx
     have hcd := HCD.out.1
     have HRG8 := Aside0.mk (ranges_below HRG7.out hd8.below)
     have HB8 := Aside0.mk (below_then HB7.out HB7.out.size hd8.below)
     clear hd8
     go_wp2
     go_roundg cnt1
     case measure => exact HCN7.out
     case rel => exact ⟨fun z => left z && !z.sameKey (.int .i64 x), cnt1, by first | rw [HST.out] | rw [HST.out, w64m (by omega) (by omega)], ⟨Nat.le_refl _⟩, HRG8, HB8⟩
end Go.Proofs.YtohfcmhidjaohaaDoor.Q
end
section
namespace Go.Proofs.YtohfcmhidjaohaaDoor.Q
open Go.RowKit Go.Proofs.YtohfcmhidjaohaaDoorW.PrintWords Go.Proofs.YtohfcmhidjaohaaDoorW.PrintLast Go.Proofs.YtohfcmhidjaohaaDoorW.PrintMore
attribute [local go_sem] max2_int min2_int max_two min_two max_three min_three max_four min_four
set_option linter.unusedVariables false
set_option linter.unusedSimpArgs false
def spec_MovedBalls.l0 : Nat → Int → List Int → Int → Int → Option (Int × Bool)
 | 0, _, _, _, _ => none
 | k + 1, x9, x23, x24, x25 => if x25 < x24 then (if 0 ≤ x25 then (if x25 < (x23.length : Int) then (if (rd x23 x25) > 0 then (spec_MovedBalls.l0 k (wrap64 (x9 + 1)) x23 x24 (wrap64 (x25 + 1))) else (spec_MovedBalls.l0 k x9 x23 x24 (wrap64 (x25 + 1)))) else (none)) else (none)) else (some (x9, true))
def spec_MovedBalls.f (k : Nat) (a0 : ByteArray) (a1 : ByteArray) : Option (Int × Bool) := (spec_tiRead.f k a0 a1).bind fun bt101 => (if bt101.2.2.2.2 = true then ((spec_tiMoves.f k bt101.1 bt101.2.1 bt101.2.2.1 bt101.2.2.2.1).bind fun t109 => (spec_MovedBalls.l0 k 0 t109 (t109.length : Int) 0)) else (some (0, false)))
set_option maxHeartbeats 8000000 in
set_option maxRecDepth 100000 in
theorem spec_MovedBalls.calls (k : Nat) (a0 : ByteArray) (a1 : ByteArray) (r1 : Int) (r2 : Bool) (w : World) (h : spec_MovedBalls.f k a0 a1 = some (r1, r2)) :
  Calls Tryd.prog 23 #[.string a0, .string a1] w fun e w' => e = .returned (.tuple #[.int .i64 r1, .bool r2]) ∧ Below w.heap.size w w' := by
 have hu37 := Tryd.underlying37
 have HB := Aside0.mk (Below.refl w.heap.size w)
 have H : ((spec_tiRead.f k a0 a1).bind fun bt101 => (if bt101.2.2.2.2 = true then ((spec_tiMoves.f k bt101.1 bt101.2.1 bt101.2.2.1 bt101.2.2.2.1).bind fun t109 => (spec_MovedBalls.l0 k 0 t109 (t109.length : Int) 0)) else (some (0, false)))) = some (r1, r2) := h
 clear h
 replace H := Option.bind_eq_some_iff.mp H
 obtain ⟨⟨t101, t102, t103, t106, t107⟩, A30, H⟩ := H
 replace H : (if t107 = true then ((spec_tiMoves.f k t101 t102 t103 t106).bind fun t109 => (spec_MovedBalls.l0 k 0 t109 (t109.length : Int) 0)) else (some (0, false))) = some (r1, r2) := H
 have A3 := Aside0.mk A30
 clear A30
 by_cases c4 : t107 = true
 ·subst c4
  have H1 : ((spec_tiMoves.f k t101 t102 t103 t106).bind fun t109 => (spec_MovedBalls.l0 k 0 t109 (t109.length : Int) 0)) = some (r1, r2) := by rw [if_pos rfl] at H; exact H
  clear H
  have H := H1
  clear H1
  replace H := Option.bind_eq_some_iff.mp H
  obtain ⟨t109, A50, H⟩ := H
  replace H : (spec_MovedBalls.l0 k 0 t109 (t109.length : Int) 0) = some (r1, r2) := H
  have A5 := Aside0.mk A50
  clear A50
  have H' := Aside0.mk H
  clear H
  go_enter Tryd.func23, Tryd.ntmps23
  go_wp2_with (first | ((with_reducible refine gate_callee (f := 27) rfl ?_); refine gcall (some 15) Tryd.func27 #[.string a0, .string a1] rfl ?_; (with_reducible refine (spec_tiRead.calls k a0 a1 t101 t102 t103 t106 true _ A3.out).mono ?_); rintro e w6 ⟨v104, rfl, ho0, hb⟩; refine ⟨_, rfl, ?_⟩; have n0_ := Aside0.mk (Kd.R_lower ho0 (below_size (bel HB))); have n1_ := Aside0.mk (below_step (bel HB) hb); clear HB; have HO105 := n0_; have HB := n1_; clear n0_ n1_; (try clear hb); (try clear hb2); (try clear hk); (try clear hi); (try clear ho0)) | ((with_reducible refine gate_dst (N := 6) rfl ?_); refine boxE (N := 6) (cs := #[.int .i64 0, .int .i64 0, .slice none 0 0]) (t := 37) ?_; intro gb108 hg w7 hbox hb; have n0_ := Aside0.mk (Kd.R_below (rch HO105) hb); have n1_ := Aside0.mk (below_step (bel HB) hb); have n2_ := Aside0.mk (hbox); have n3_ := Aside0.mk (gsz hg (bel HB)); have n4_ := Aside0.mk (gsz hg (bel HB)); clear HO105; clear HB; have HO105 := n0_; have HB := n1_; have BK108 := n2_; have GW108 := n3_; have GE108 := n4_; clear n0_ n1_ n2_ n3_ n4_; clear hb hbox hg; have hcz8_0 : w7.cell? ⟨gb108, 0, none⟩ = some (.int .i64 0) := (blk_cell BK108.out 0).trans rfl; have hcz8_1 : w7.cell? ⟨gb108, 1, none⟩ = some (.int .i64 0) := (blk_cell BK108.out 1).trans rfl; have hcz8_2 : w7.cell? ⟨gb108, 2, none⟩ = some (.slice none 0 0) := (blk_cell BK108.out 2).trans rfl; have hfz8_0 := blk_frozen BK108.out 0; have hfz8_1 := blk_frozen BK108.out 1; have hfz8_2 := blk_frozen BK108.out 2; obtain ⟨Ao9, co9, eo9⟩ := Kd.R_slice HO105.out; subst eo9) | ((with_reducible refine gate_callee (f := 48) rfl ?_); refine gcall (some 23) Tryd.func48 #[.agg #[.int .i64 t101, .int .i64 t102, .slice Ao9 t103.length co9], .int .i64 t106] rfl ?_; (with_reducible refine (spec_tiMoves.calls k t101 t102 _ _ t103 t106 t109 _ ?side1 ?side2 A5.out).mono ?_); (case side1 => refine (Kd.R_reads' (e := 5) (base := w.heap.size) (ok := fun k_ => True) (n := t103.length) (c := co9) ?_).2.2; exact (by (with_reducible repeat (first | apply Kd.R_alloc | apply Kd.R_drewN | apply Kd.R_drew)); exact (Kd.R_mono (Kd.R_far (p := ⟨gb108, 2, none⟩) (Kd.R_far (p := ⟨gb108, 1, none⟩) (Kd.R_far (p := ⟨gb108, 0, none⟩) (Kd.R_types HO105.out BK108.out (by decide)) (fun _ hk => hk.2) (.int .i64 t101)) (fun _ hk => hk.2) (.int .i64 t102)) (fun _ hk => hk.2) (.slice Ao9 t103.length co9)) (fun _ h_ => h_.1)))); (case side2 => exact (Kd.R_reads' HO105.out).2.1); rintro e w10 ⟨v110, rfl, ho0, hb⟩; refine ⟨_, rfl, ?_⟩; have n0_ := Aside0.mk (Kd.R_below (by (with_reducible repeat (first | apply Kd.R_alloc | apply Kd.R_drewN | apply Kd.R_drew)); exact (Kd.R_mono (Kd.R_far (p := ⟨gb108, 2, none⟩) (Kd.R_far (p := ⟨gb108, 1, none⟩) (Kd.R_far (p := ⟨gb108, 0, none⟩) (Kd.R_types HO105.out BK108.out (by decide)) (fun _ hk => hk.2) (.int .i64 t101)) (fun _ hk => hk.2) (.int .i64 t102)) (fun _ hk => hk.2) (.slice Ao9 t103.length co9)) (fun _ h_ => h_.1))) hb); have n1_ := Aside0.mk (Kd.R_lower ho0 (below_size (bel HB))); have n2_ := Aside0.mk (blk_below (g := gb108) (o := .cells #[.int .i64 t101, .int .i64 t102, .slice Ao9 t103.length co9] 37 (0, 0)) (by (with_reducible repeat (first | refine blk_drewN ?_ _ | refine blk_drew ?_ | refine blk_alloc ?_ _)); refine blk_put (cs := #[.int .i64 t101, .int .i64 t102, .slice none 0 0]) ?_ 2 _ rfl; (with_reducible repeat (first | refine blk_drewN ?_ _ | refine blk_drew ?_ | refine blk_alloc ?_ _)); refine blk_put (cs := #[.int .i64 t101, .int .i64 0, .slice none 0 0]) ?_ 1 _ rfl; (with_reducible repeat (first | refine blk_drewN ?_ _ | refine blk_drew ?_ | refine blk_alloc ?_ _)); refine blk_put (cs := #[.int .i64 0, .int .i64 0, .slice none 0 0]) ?_ 0 _ rfl; exact blc) hb); have n3_ := Aside0.mk (below_step (bel HB) hb); clear HO105; clear BK108; clear HB; have HO105 := n0_; have HO111 := n1_; have BK108 := n2_; have HB := n3_; clear n0_ n1_ n2_ n3_; (try clear hb); (try clear hb2); (try clear hk); (try clear hi); (try clear ho0); obtain ⟨Ao11, co11, eo11⟩ := Kd.R_slice HO111.out; subst eo11))
  go_loopg [9, 25] k (fun kq v9 v25 w' => ∃ (x9_1 : Int) (x25_1 : Int), v9 = .int .i64 x9_1 ∧ v25 = .int .i64 x25_1 ∧ Aside0 (spec_MovedBalls.l0 kq x9_1 t109 (t109.length : Int) x25_1 = some (r1, r2)) ∧ Aside0 (kq ≤ k) ∧ Aside0 (Kd.R (Kd.int .i64) 3 w' w.heap.size (fun _ => True) (.slice Ao11 t109.length co11) t109) ∧ Aside0 (Kd.R (Kd.int .u8) 5 w' w.heap.size (fun _ => True) (.slice Ao9 t103.length co9) t103) ∧ Aside0 (w'.heap[gb108]? = some (.cells #[.int .i64 t101, .int .i64 t102, (.slice Ao9 t103.length co9)] 37 (0, 0))) ∧ Aside0 (Below w.heap.size w w'))
  case atStart => exact ⟨(0), (0), (by first | rfl | (simp; done) | (simp [*]; done)), (by first | rfl | (simp; done) | (simp [*]; done)), H', ⟨Nat.le_refl _⟩, ⟨rch HO111⟩, ⟨rch HO105⟩, ⟨blc⟩, ⟨bel HB⟩⟩
  case round =>
   clear H'
   try clear c2
   try clear p2
   try clear c4
   try clear hcz8_0
   try clear hcz8_1
   try clear hcz8_2
   try clear hfz8_0
   try clear hfz8_1
   try clear hfz8_2
   obtain ⟨x9_1, x25_1, rfl, rfl, HA, HK1, HO_23, HO_109002, BK108, HB⟩ := hrel
   cases gk with
   | zero => exact absurd HA.out (by simp [spec_MovedBalls.l0])
   | succ k1 =>
    have H := HA.out
    clear HA
    simp only [spec_MovedBalls.l0] at H
    by_cases c12 : x25_1 < (t109.length : Int)
    ·rw [if_pos c12] at H
     have c12b0 : decide (x25_1 < (t109.length : Int)) = true := decide_eq_true c12
     clear c12
     by_cases c13 : 0 ≤ x25_1
     ·rw [if_pos c13] at H
      have c13b0 : decide (0 ≤ x25_1) = true := decide_eq_true c13
      clear c13
      by_cases c14 : x25_1 < (t109.length : Int)
      ·rw [if_pos c14] at H
       have c14b0 : decide (x25_1 < (t109.length : Int)) = true := decide_eq_true c14
       clear c14
       by_cases c15 : (rd t109 x25_1) > 0
       ·rw [if_pos c15] at H
        have c15b0 : decide (0 < (rd t109 x25_1)) = true := decide_eq_true c15
        clear c15
        have H' := Aside0.mk H
        clear H
        have p112 : 0 ≤ (x25_1 : Int) := of_decide_eq_true (by first | (with_reducible assumption) | assumption)
        have q112 : x25_1 < (t109.length : Int) := of_decide_eq_true (by first | (with_reducible assumption) | assumption)
        obtain ⟨ad112, e112, hx112_0⟩ := Kd.at_int (Kd.R_reads' HO_23.out).2.2 x25_1 p112 q112
        cases e112
        replace p112 := eq_true p112
        replace q112 := eq_true q112
        go_wp2
        go_roundg k1
        case measure => have := HK1.out; omega
        case rel => exact ⟨(wrap64 (x9_1 + 1)), (wrap64 (x25_1 + 1)), (by first | rfl | (simp; done) | (simp [*]; done)), (by first | rfl | (simp; done) | (simp [*]; done)), H', ⟨by have := HK1.out; omega⟩, ⟨rch HO_23⟩, ⟨rch HO_109002⟩, ⟨blc⟩, ⟨bel HB⟩⟩
       ·rw [if_neg c15] at H
        have c15b0 : decide (0 < (rd t109 x25_1)) = false := decide_eq_false c15
        clear c15
        have H' := Aside0.mk H
        clear H
        have p112 : 0 ≤ (x25_1 : Int) := of_decide_eq_true (by first | (with_reducible assumption) | assumption)
        have q112 : x25_1 < (t109.length : Int) := of_decide_eq_true (by first | (with_reducible assumption) | assumption)
        obtain ⟨ad112, e112, hx112_0⟩ := Kd.at_int (Kd.R_reads' HO_23.out).2.2 x25_1 p112 q112
        cases e112
        replace p112 := eq_true p112
        replace q112 := eq_true q112
        go_wp2
        go_roundg k1
        case measure => have := HK1.out; omega
        case rel => exact ⟨(x9_1), (wrap64 (x25_1 + 1)), (by first | rfl | (simp; done) | (simp [*]; done)), (by first | rfl | (simp; done) | (simp [*]; done)), H', ⟨by have := HK1.out; omega⟩, ⟨rch HO_23⟩, ⟨rch HO_109002⟩, ⟨blc⟩, ⟨bel HB⟩⟩
      ·rw [if_neg c14] at H
       exact absurd H (by simp)
     ·rw [if_neg c13] at H
      exact absurd H (by simp)
    ·rw [if_neg c12] at H
     have c12b0 : decide (x25_1 < (t109.length : Int)) = false := decide_eq_false c12
     clear c12
     simp only [Option.some.injEq, Prod.mk.injEq] at H
     obtain ⟨rfl, rfl⟩ := H
     go_wp2
     go_ret2
     exact ⟨by first | rfl | (simp [errW_none, errW_some] <;> rfl) | (simp [*, errW_none, errW_some] <;> rfl), bel HB⟩
 ·replace c4 := Bool.eq_false_iff.mpr c4
  subst c4
  have H1 : (some (0, false)) = some (r1, r2) := by rw [if_neg (show ¬ (false = true) by decide)] at H; exact H
  clear H
  have H := H1
  clear H1
  simp only [Option.some.injEq, Prod.mk.injEq] at H
  obtain ⟨rfl, rfl⟩ := H
  go_enter Tryd.func23, Tryd.ntmps23
  go_wp2_with (first | ((with_reducible refine gate_callee (f := 27) rfl ?_); refine gcall (some 15) Tryd.func27 #[.string a0, .string a1] rfl ?_; (with_reducible refine (spec_tiRead.calls k a0 a1 t101 t102 t103 t106 false _ A3.out).mono ?_); rintro e w16 ⟨v104, rfl, ho0, hb⟩; refine ⟨_, rfl, ?_⟩; have n0_ := Aside0.mk (Kd.R_lower ho0 (below_size (bel HB))); have n1_ := Aside0.mk (below_step (bel HB) hb); clear HB; have HO105 := n0_; have HB := n1_; clear n0_ n1_; (try clear hb); (try clear hb2); (try clear hk); (try clear hi); (try clear ho0)) | ((with_reducible refine gate_dst (N := 6) rfl ?_); refine boxE (N := 6) (cs := #[.int .i64 0, .int .i64 0, .slice none 0 0]) (t := 37) ?_; intro gb108 hg w17 hbox hb; have n0_ := Aside0.mk (Kd.R_below (rch HO105) hb); have n1_ := Aside0.mk (below_step (bel HB) hb); have n2_ := Aside0.mk (hbox); have n3_ := Aside0.mk (gsz hg (bel HB)); have n4_ := Aside0.mk (gsz hg (bel HB)); clear HO105; clear HB; have HO105 := n0_; have HB := n1_; have BK108 := n2_; have GW108 := n3_; have GE108 := n4_; clear n0_ n1_ n2_ n3_ n4_; clear hb hbox hg; have hcz18_0 : w17.cell? ⟨gb108, 0, none⟩ = some (.int .i64 0) := (blk_cell BK108.out 0).trans rfl; have hcz18_1 : w17.cell? ⟨gb108, 1, none⟩ = some (.int .i64 0) := (blk_cell BK108.out 1).trans rfl; have hcz18_2 : w17.cell? ⟨gb108, 2, none⟩ = some (.slice none 0 0) := (blk_cell BK108.out 2).trans rfl; have hfz18_0 := blk_frozen BK108.out 0; have hfz18_1 := blk_frozen BK108.out 1; have hfz18_2 := blk_frozen BK108.out 2; obtain ⟨Ao19, co19, eo19⟩ := Kd.R_slice HO105.out; subst eo19))
  go_ret2
  exact ⟨by first | rfl | (simp [errW_none, errW_some] <;> rfl) | (simp [*, errW_none, errW_some] <;> rfl), bel HB⟩
def laws_FnExactMovedBalls.f (k : Nat) (a0 : ByteArray) (a1 : ByteArray) : Option (Bool) := if (a0.size : Int) > 1048576 then (some true) else (if (a1.size : Int) > 1048576 then (some true) else ((spec_MovedBalls.f k a0 a1).bind fun bt101 => ((impl_MovedBalls.f k a0 a1).bind fun bt103 => (if bt103.1 = bt101.1 then (if (bt103.2 != bt101.2) = true then (some false) else (some true)) else (some false)))))
set_option maxHeartbeats 8000000 in
set_option maxRecDepth 100000 in
theorem laws_FnExactMovedBalls.calls (k : Nat) (a0 : ByteArray) (a1 : ByteArray) (r : Bool) (w : World) (hG : GoodW w) (h : laws_FnExactMovedBalls.f k a0 a1 = some r) :
  Calls Tryd.prog 8 #[.string a0, .string a1] w fun e w' => e = .returned (.bool r) ∧ Below w.heap.size w w' := by
 have HG := Aside0.mk hG
 clear hG
 have HB := Aside0.mk (Below.refl w.heap.size w)
 have H : (if (a0.size : Int) > 1048576 then (some true) else (if (a1.size : Int) > 1048576 then (some true) else ((spec_MovedBalls.f k a0 a1).bind fun bt101 => ((impl_MovedBalls.f k a0 a1).bind fun bt103 => (if bt103.1 = bt101.1 then (if (bt103.2 != bt101.2) = true then (some false) else (some true)) else (some false)))))) = some r := h
 clear h
 by_cases c3 : (a0.size : Int) > 1048576
 ·rw [if_pos c3] at H
  have c3b0 : decide (1048576 < (a0.size : Int)) = true := decide_eq_true c3
  have c3b1 : decide (1048576 < a0.size) = true := decide_eq_true (by omega)
  clear c3
  obtain rfl := Option.some.inj H
  go_enter Tryd.func8, Tryd.ntmps8
  go_wp2
  go_ret
  exact ⟨by first | rfl | (simp [errW_none, errW_some] <;> rfl) | (simp [*, errW_none, errW_some] <;> rfl), bel HB⟩
 ·rw [if_neg c3] at H
  have c3b0 : decide (1048576 < (a0.size : Int)) = false := decide_eq_false c3
  have c3b1 : decide (1048576 < a0.size) = false := decide_eq_false (by omega)
  clear c3
  by_cases c4 : (a1.size : Int) > 1048576
  ·rw [if_pos c4] at H
   have c4b0 : decide (1048576 < (a1.size : Int)) = true := decide_eq_true c4
   have c4b1 : decide (1048576 < a1.size) = true := decide_eq_true (by omega)
   clear c4
   obtain rfl := Option.some.inj H
   go_enter Tryd.func8, Tryd.ntmps8
   go_wp2
   go_ret
   exact ⟨by first | rfl | (simp [errW_none, errW_some] <;> rfl) | (simp [*, errW_none, errW_some] <;> rfl), bel HB⟩
  ·rw [if_neg c4] at H
   have c4b0 : decide (1048576 < (a1.size : Int)) = false := decide_eq_false c4
   have c4b1 : decide (1048576 < a1.size) = false := decide_eq_false (by omega)
   clear c4
   replace H := Option.bind_eq_some_iff.mp H
   obtain ⟨⟨t101, t102⟩, A50, H⟩ := H
   replace H : ((impl_MovedBalls.f k a0 a1).bind fun bt103 => (if bt103.1 = t101 then (if (bt103.2 != t102) = true then (some false) else (some true)) else (some false))) = some r := H
   have A5 := Aside0.mk A50
   clear A50
   replace H := Option.bind_eq_some_iff.mp H
   obtain ⟨⟨t103, t104⟩, A60, H⟩ := H
   replace H : (if t103 = t101 then (if (t104 != t102) = true then (some false) else (some true)) else (some false)) = some r := H
   have A6 := Aside0.mk A60
   clear A60
   by_cases c7 : t103 = t101
   ·rw [if_pos c7] at H
    have c7b0 : (t103 == t101) = true := beq_iff_eq.mpr c7
    have c7b1 : (t103 != t101) = false := bne_eq_false_iff_eq.mpr c7
    clear c7
    by_cases c8 : (t104 != t102) = true
    ·rw [if_pos c8] at H
     have c8b0 : (t104 != t102) = true := c8
     (try (have c8b1 : decide (t104 = t102) = false := by simpa using c8))
     (try (have c8b2 : (t104 == t102) = false := by simpa using c8))
     (try (have c8b3 : ¬ (t104 = t102) := by simpa using c8))
     clear c8
     obtain rfl := Option.some.inj H
     go_enter Tryd.func8, Tryd.ntmps8
     go_wp2_with (first | ((with_reducible refine gate_callee (f := 23) rfl ?_); refine gcall (some 18) Tryd.func23 #[.string a0, .string a1] rfl ?_; (with_reducible refine (spec_MovedBalls.calls k a0 a1 t101 t102 _ A5.out).mono ?_); rintro e w9 ⟨rfl, hb⟩; refine ⟨_, rfl, ?_⟩; have n0_ := Aside0.mk (below_step (bel HB) hb); clear HB; have HB := n0_; clear n0_; (try clear hb); (try clear hb2); (try clear hk); (try clear hi)) | ((with_reducible refine gate_callee (f := 24) rfl ?_); refine gcall (some 24) Tryd.func24 #[.string a0, .string a1] rfl ?_; (with_reducible refine (impl_MovedBalls.calls k a0 a1 t103 t104 _ ?side1 A6.out).mono ?_); (case side1 => (refine GoodW.below HG.out ?_); exact bel HB); rintro e w10 ⟨rfl, hb⟩; refine ⟨_, rfl, ?_⟩; have n0_ := Aside0.mk (below_step (bel HB) hb); clear HB; have HB := n0_; clear n0_; (try clear hb); (try clear hb2); (try clear hk); (try clear hi)))
     go_ret
     exact ⟨by first | rfl | (simp [errW_none, errW_some] <;> rfl) | (simp [*, errW_none, errW_some] <;> rfl), bel HB⟩
    ·rw [if_neg c8] at H
     have c8b0 : (t104 != t102) = false := by simpa using c8
     (try (have c8b1 : decide (t104 = t102) = true := by simpa using c8))
     (try (have c8b2 : (t104 == t102) = true := by simpa using c8))
     clear c8
     obtain rfl := Option.some.inj H
     go_enter Tryd.func8, Tryd.ntmps8
     go_wp2_with (first | ((with_reducible refine gate_callee (f := 23) rfl ?_); refine gcall (some 18) Tryd.func23 #[.string a0, .string a1] rfl ?_; (with_reducible refine (spec_MovedBalls.calls k a0 a1 t101 t102 _ A5.out).mono ?_); rintro e w11 ⟨rfl, hb⟩; refine ⟨_, rfl, ?_⟩; have n0_ := Aside0.mk (below_step (bel HB) hb); clear HB; have HB := n0_; clear n0_; (try clear hb); (try clear hb2); (try clear hk); (try clear hi)) | ((with_reducible refine gate_callee (f := 24) rfl ?_); refine gcall (some 24) Tryd.func24 #[.string a0, .string a1] rfl ?_; (with_reducible refine (impl_MovedBalls.calls k a0 a1 t103 t104 _ ?side1 A6.out).mono ?_); (case side1 => (refine GoodW.below HG.out ?_); exact bel HB); rintro e w12 ⟨rfl, hb⟩; refine ⟨_, rfl, ?_⟩; have n0_ := Aside0.mk (below_step (bel HB) hb); clear HB; have HB := n0_; clear n0_; (try clear hb); (try clear hb2); (try clear hk); (try clear hi)))
     go_ret
     exact ⟨by first | rfl | (simp [errW_none, errW_some] <;> rfl) | (simp [*, errW_none, errW_some] <;> rfl), bel HB⟩
   ·rw [if_neg c7] at H
    have c7b0 : (t103 == t101) = false := beq_eq_false_iff_ne.mpr c7
    have c7b1 : (t103 != t101) = true := bne_iff_ne.mpr c7
    obtain rfl := Option.some.inj H
    go_enter Tryd.func8, Tryd.ntmps8
    go_wp2_with (first | ((with_reducible refine gate_callee (f := 23) rfl ?_); refine gcall (some 18) Tryd.func23 #[.string a0, .string a1] rfl ?_; (with_reducible refine (spec_MovedBalls.calls k a0 a1 t101 t102 _ A5.out).mono ?_); rintro e w13 ⟨rfl, hb⟩; refine ⟨_, rfl, ?_⟩; have n0_ := Aside0.mk (below_step (bel HB) hb); clear HB; have HB := n0_; clear n0_; (try clear hb); (try clear hb2); (try clear hk); (try clear hi)) | ((with_reducible refine gate_callee (f := 24) rfl ?_); refine gcall (some 24) Tryd.func24 #[.string a0, .string a1] rfl ?_; (with_reducible refine (impl_MovedBalls.calls k a0 a1 t103 t104 _ ?side1 A6.out).mono ?_); (case side1 => (refine GoodW.below HG.out ?_); exact bel HB); rintro e w14 ⟨rfl, hb⟩; refine ⟨_, rfl, ?_⟩; have n0_ := Aside0.mk (below_step (bel HB) hb); clear HB; have HB := n0_; clear n0_; (try clear hb); (try clear hb2); (try clear hk); (try clear hi)))
    go_ret
    exact ⟨by first | rfl | (simp [errW_none, errW_some] <;> rfl) | (simp [*, errW_none, errW_some] <;> rfl), bel HB⟩
end Go.Proofs.YtohfcmhidjaohaaDoor.Q
end
section
namespace Go.Proofs.YtohfcmhidjaohaaDoor.Q
set_option linter.unusedSectionVars false
open Go.RowKit Go.Proofs.YtohfcmhidjaohaaDoorW.PrintWords Go.Proofs.YtohfcmhidjaohaaDoorW.PrintLast Go.Proofs.YtohfcmhidjaohaaDoorW.PrintMore
open Classical
def posG (x : Int) : Int := if x > 0 then 1 else 0
theorem smb_l0 (P : List Int) : ∀ (l : List Int) (i : Nat) (a : Int), P.drop i = l → i ≤ P.length → i + l.length ≤ 1000 → 0 ≤ a → a + (l.length : Int) ≤ 2000000 → Ev (fun k => spec_MovedBalls.l0 k a P (P.length : Int) (i : Int)) (a + (l.map posG).sum, true)
 | [], i, a, hd, hi, _, _, _ => by
  have hL : i = P.length := by
   have := congrArg List.length hd
   simp at this
   omega
  subst hL
  refine Ev.step (Ev.const rfl) fun k => ?_
  rw [spec_MovedBalls.l0, if_neg (by omega), List.map_nil, List.sum_nil, Int.add_zero]
 | x :: l, i, a, hd, _, hq, ha, hb => by
  obtain ⟨h1, h2, h3⟩ := rd_drop hd
  simp only [List.length_cons] at hq hb
  rw [List.map_cons, List.sum_cons, ← Int.add_assoc]
  by_cases hx : x > 0
  ·have hp : posG x = 1 := if_pos hx
   rw [hp]
   refine Ev.step (smb_l0 P l (i + 1) (a + 1) h3 h1 (by omega) (by omega) (by omega)) fun k => ?_
   rw [spec_MovedBalls.l0, if_pos (by omega), if_pos (by omega), if_pos (by omega), h2, if_pos hx, w64m (n := a + 1) (by omega) (by omega), wr1 i (by omega)]
  ·have hp : posG x = 0 := if_neg hx
   rw [hp, Int.add_zero]
   refine Ev.step (smb_l0 P l (i + 1) a h3 h1 (by omega) (by omega) (by omega)) fun k => ?_
   rw [spec_MovedBalls.l0, if_pos (by omega), if_pos (by omega), if_pos (by omega), h2, if_neg hx, wr1 i (by omega)]
theorem mvS_ne (cs s : List Int) (w : Int) (hg : ∀ (j k : Nat) (y z : Int), s[j]? = some y → s[k]? = some z → k ≤ j → farG w y z = (j : Int) - k) : ∀ (l : List Int) (j k : Nat), s.drop j = l → k ≤ j → (((l.filter (bI cs)).zip (s.drop k)).map fun p => neG p.1 p.2) = (mvS cs l j k).map posG
 | [], j, k, _, _ => by simp [mvS]
 | x :: l, j, k, hd, hk => by
  obtain ⟨h1, h2, h3⟩ := rd_drop hd
  have hx : s[j]? = some x := by
   rw [List.getElem?_eq_getElem h1, ← rd_nat s j h1, h2]
  unfold mvS
  by_cases hb : bI cs x = true
  ·have hkl : k < s.length := by omega
   rw [List.filter_cons_of_pos hb, if_pos hb, List.drop_eq_getElem_cons hkl, List.zip_cons_cons, List.map_cons, List.map_cons, mvS_ne cs s w hg l (j + 1) (k + 1) h3 (by omega)]
   congr 1
   have hf := hg j k x _ hx (List.getElem?_eq_getElem hkl) hk
   show neG x s[k] = posG ((j : Int) - k)
   unfold neG posG
   by_cases e : x = s[k]
   ·have hz : farG w x s[k] = 0 := by
     rw [← e]
     unfold farG
     omega
    rw [if_pos e, if_neg (by omega)]
   ·have hne : j ≠ k := by
     rintro rfl
     rw [List.getElem?_eq_getElem hkl] at hx
     exact e (Option.some.inj hx).symm
    rw [if_neg e, if_pos (by omega)]
  ·rw [List.filter_cons_of_neg hb, if_neg hb]
   exact mvS_ne cs s w hg l (j + 1) k h3 (by omega)
section
variable {w h : Nat} {cs : List Int} (hw : w ≤ 7) (hh : h ≤ 7) (hs : w * h ≤ 36) {d : Nat} (hd : d < 4)
include hw hh hs hd
theorem pairs_ne : ((pairsP cs (strL w h cs d)).map fun p => neG p.1 p.2) = (mvP cs (strL w h cs d)).map posG := by
 have h1 := str_far hw hh hs hd (cs := cs)
 generalize strL w h cs d = P at h1
 induction P with
 | nil => rfl
 | cons s P ih =>
  unfold pairsP mvP
  rw [List.flatMap_cons, List.flatMap_cons, List.map_append, List.map_append]
  congr 1
  ·have := mvS_ne cs s w (h1 s List.mem_cons_self) s 0 0 rfl (Nat.le_refl _)
   rw [List.drop_zero] at this
   exact this
  ·exact ih fun t ht => h1 t (List.mem_cons_of_mem _ ht)
theorem mvP_many (hn : cs.length = w * h) : (mvP cs (strL w h cs d)).length ≤ 36 := by
 have h1 := mvP_len cs (strL w h cs d)
 have h2 := str_total hw hh hs hd hn
 omega
end
def MovedBallsR (t s : ByteArray) : Int × Bool := match trayOf t with
 | none => (0, false)
 | some (w, h, cs) => if 0 ≤ dirI s then (((mvP cs (strL w.toNat h.toNat cs (dirI s).toNat)).map posG).sum, true) else (0, false)
theorem specMovedBalls_ev (t s : ByteArray) : Ev (fun k => spec_MovedBalls.f k t s) (MovedBallsR t s) := by
 refine Ev.bind (f := fun k (bt101 : Int × Int × List Int × Int × Bool) => (if bt101.2.2.2.2 = true then ((spec_tiMoves.f k bt101.1 bt101.2.1 bt101.2.2.1 bt101.2.2.2.1).bind fun t109 => (spec_MovedBalls.l0 k 0 t109 (t109.length : Int) 0)) else (some (0, false)))) (tiRead_ev t s) ?_
 unfold MovedBallsR
 rcases ht : trayOf t with _ | ⟨w, h, cs⟩
 ·exact Ev.congr (Ev.const rfl) fun k => if_neg Bool.false_ne_true
 ·obtain ⟨w, h, cs, e, hw1, hw, hh1, hh, hs, hn⟩ := tray_parts ht
  injection e with e1 e2
  injection e2 with e2 e3
  subst e1 e2 e3
  have hz : 0 < w * h := Nat.mul_pos hw1 hh1
  show Ev _ (if 0 ≤ dirI s then _ else _)
  by_cases hd : 0 ≤ dirI s
  ·obtain ⟨d, hd4, e, _⟩ := dirI_nat hd
   rw [if_pos hd, e]
   simp only [Int.toNat_natCast]
   have m1 := mvP_many hw hh hs hd4 hn
   have h1 := smb_l0 (mvP cs (strL w h cs d)) (mvP cs (strL w h cs d)) 0 0 rfl (Nat.zero_le _) (by omega) (Int.le_refl _) (by omega)
   rw [Int.zero_add] at h1
   refine Ev.congr (Ev.bind (f := fun k t109 => spec_MovedBalls.l0 k 0 t109 (t109.length : Int) 0) (tiMoves_ev hw hh hs hd4 hn) h1) fun k => ?_
   exact if_pos (decide_eq_true (show (0 : Int) ≤ (d : Int) by omega))
  ·rw [if_neg hd]
   exact Ev.congr (Ev.const rfl) fun k => if_neg (by simpa using hd)
theorem implMovedBalls_ev (t s : ByteArray) (ht0 : t.size ≤ 1048576) (_hs0 : s.size ≤ 1048576) : Ev (fun k => impl_MovedBalls.f k t s) (MovedBallsR t s) := by
 refine Ev.bind (f := fun k (b : Bool) => if b = true then (impl_read.f t).bind fun g => if 0 < (s.size : Int) then (impl_tray_slide.f k g.1 g.2.1 g.2.2 (bt s 0)).bind fun m => if g.2.2.length ≤ 1000 ∧ fitsB m g.2.2.length = true then some (sumG g.2.2.length (asF m) neG (fun _ => true), true) else none else none else some (0, false)) (isTilted_ev t s ht0) ?_
 unfold MovedBallsR
 rcases ht : trayOf t with _ | ⟨w, h, cs⟩
 ·exact Ev.congr (Ev.const rfl) fun k => if_neg (by simp)
 ·have hread := tray_read ht
  obtain ⟨w, h, cs, e, hw1, hw, hh1, hh, hs, hn⟩ := tray_parts ht
  injection e with e1 e2
  injection e2 with e2 e3
  subst e1 e2 e3
  have hz : 0 < w * h := Nat.mul_pos hw1 hh1
  show Ev _ (if 0 ≤ dirI s then _ else _)
  by_cases hd : 0 ≤ dirI s
  ·obtain ⟨d, hd4, e, rfl⟩ := dirI_nat hd
   rw [if_pos hd, e]
   simp only [Int.toNat_natCast]
   obtain ⟨b1, b2⟩ := bt_dir ⟨d, hd4⟩
   simp only at b1 b2
   refine Ev.congr (Ev.bind (f := fun _ m => if cs.length ≤ 1000 ∧ fitsB m cs.length = true then some (sumG cs.length (asF m) neG (fun _ => true), true) else none) (slide_ev hw hh hs hd4 hw1 hh1 hn) (Ev.const ?_)) fun k => ?_
   ·rw [if_pos ⟨by omega, slide_fits hw hh hs hd4 hn⟩, sum_pairs hw hh hs hd4 hn, pairs_ne hw hh hs hd4]
   ·rw [if_pos (show ((some ((w : Int), (h : Int), cs)).isSome && decide (0 ≤ (d : Int))) = true by rw [decide_eq_true (show (0 : Int) ≤ (d : Int) by omega)]; rfl), hread, Option.bind_some, if_pos b1, b2]
  ·rw [if_neg hd]
   exact Ev.congr (Ev.const rfl) fun k => if_neg (by simpa using hd)
theorem lawMovedBalls_ev (t : ByteArray) (s : ByteArray) : Ev (fun k => laws_FnExactMovedBalls.f k t s) true := by
 by_cases ht : t.size ≤ 1048576
 case neg =>
  refine Ev.congr (Ev.const (o := some true) rfl) fun k => ?_
  unfold laws_FnExactMovedBalls.f
  exact if_pos (by omega)
 by_cases hs : s.size ≤ 1048576
 case neg =>
  refine Ev.congr (Ev.const (o := some true) rfl) fun k => ?_
  unfold laws_FnExactMovedBalls.f
  rw [if_neg (by omega)]
  exact if_pos (by omega)
 have hsp := specMovedBalls_ev t s
 have him := implMovedBalls_ev t s ht hs
 refine Ev.congr (Ev.bind (f := fun k (bt101 : Int × Bool) => ((impl_MovedBalls.f k t s).bind fun bt103 => (if bt103.1 = bt101.1 then (if (bt103.2 != bt101.2) = true then (some false) else (some true)) else (some false)))) hsp (Ev.bind (f := fun _ (bt103 : Int × Bool) => (if bt103.1 = (MovedBallsR t s).1 then (if (bt103.2 != (MovedBallsR t s).2) = true then (some false) else (some true)) else (some false))) him (Ev.const ?_))) fun k => by unfold laws_FnExactMovedBalls.f; rw [if_neg (by omega), if_neg (by omega)]
 rw [if_pos rfl, bne_self_eq_false, if_neg (by decide)]
end Go.Proofs.YtohfcmhidjaohaaDoor.Q
end
