/- Texts of this claim, joined. -/
import Derived.Test.YtmefnfhghfemgaaDoorJFirstOrder07
import Derived.Test.YtmefnfhghfemgaaDoorJFirstOrder08
set_option linter.unusedVariables false
set_option linter.unusedSimpArgs false
set_option linter.unusedSectionVars false
section
namespace Go.Proofs.YtmefnfhghfemgaaDoor.Q
set_option linter.unusedSectionVars false
set_option linter.unusedSimpArgs false
set_option linter.unusedVariables false
open Go.RowKit Go.Proofs.YtmefnfhghfemgaaDoorW.PrintWords Go.Proofs.YtmefnfhghfemgaaDoorW.PrintLast Go.Proofs.YtmefnfhghfemgaaDoorW.PrintMore
open Classical
noncomputable def nextO (w h : Nat) (cs : List Int) (S : Nat) : Nat → Nat → Option Nat
 | 0, _ => none
 | m + 1, i => if S.testBit i = false ∧ eS w h (w * h) (ballsOf cs) S i = true ∧ cntQ w h cs (S + 2 ^ i) ≠ 0 then some i else nextO w h cs S m (i + 1)
noncomputable def goO (w h : Nat) (cs : List Int) : Nat → List Nat → Nat → List Nat
 | 0, js, _ => js
 | r + 1, js, S => match nextO w h cs S (ballsOf cs).length 0 with
  | some i => goO w h cs r (js ++ [i]) (S + 2 ^ i)
  | none => js
def told (cs : List Int) (js : List Nat) : List Int := js.map fun j : Nat => rd (ballsOf cs) (j : Int)
theorem told_len (cs : List Int) (js : List Nat) : (told cs js).length = js.length := by unfold told; rw [List.length_map]
theorem told_snoc (cs : List Int) (js : List Nat) (i : Nat) : told cs (js ++ [i]) = told cs js ++ [rd (ballsOf cs) (i : Int)] := by unfold told; rw [List.map_append]; rfl
noncomputable def FirstOrderR (s : ByteArray) : List Int × Bool := match formOf s with
 | none => ([], false)
 | some (w, h, cs) => if cntQ w.toNat h.toNat cs 0 ≠ 0 then (told cs (goO w.toNat h.toNat cs (ballsOf cs).length [] 0), true) else ([], false)
section
variable {w h : Nat} {cs : List Int} (hw1 : 1 ≤ w) (hw : w ≤ 7) (hh1 : 1 ≤ h) (hh : h ≤ 7) (hs : w * h ≤ 36) (hn : cs.length = w * h) (h10 : (ballsOf cs).length ≤ 10)
include hw1 hw hh1 hh hs hn h10
theorem next_some (S : Nat) : ∀ (m i : Nat), i + m = (ballsOf cs).length → ∀ j, nextO w h cs S m i = some j → i ≤ j ∧ j < (ballsOf cs).length ∧ S.testBit j = false ∧ eS w h (w * h) (ballsOf cs) S j = true ∧ cntQ w h cs (S + 2 ^ j) ≠ 0
 | 0, i, hi, j, h => by cases h
 | m + 1, i, hi, j, h => by
  unfold nextO at h
  split at h
  ·rename_i h1
   obtain rfl := Option.some.inj h
   exact ⟨Nat.le_refl _, by omega, h1⟩
  ·have := next_some S m (i + 1) (by omega) j h
   exact ⟨by omega, this.2⟩
theorem next_none (S : Nat) : ∀ (m i : Nat), i + m = (ballsOf cs).length → nextO w h cs S m i = none → ∀ j, i ≤ j → j < (ballsOf cs).length → ¬ (S.testBit j = false ∧ eS w h (w * h) (ballsOf cs) S j = true ∧ cntQ w h cs (S + 2 ^ j) ≠ 0)
 | 0, i, hi, h, j, h1, h2 => by omega
 | m + 1, i, hi, h, j, h1, h2 => by
  unfold nextO at h
  split at h
  ·cases h
  ·rename_i h3
   by_cases e : j = i
   ·subst e
    exact h3
   ·exact next_none S m (i + 1) (by omega) h j (by omega) h2
theorem next_is (S : Nat) (hS : S < 2 ^ (ballsOf cs).length) (hf : S ≠ 2 ^ (ballsOf cs).length - 1) (hq : cntQ w h cs S ≠ 0) : ∃ j, nextO w h cs S (ballsOf cs).length 0 = some j := by
 rcases hx : nextO w h cs S (ballsOf cs).length 0 with _ | j
 ·obtain ⟨j, h1, h2, h3, h4⟩ := (cnt_step hw1 hw hh1 hh hs hn h10 S hS hf).1 hq
  exact absurd ⟨h2, h3, h4⟩ (next_none hw1 hw hh1 hh hs hn h10 S _ 0 (Nat.zero_add _) hx j (Nat.zero_le _) h1)
 ·exact ⟨j, rfl⟩
theorem not_full {S : Nat} (hp : PO.pc (ballsOf cs).length S < (ballsOf cs).length) : S ≠ 2 ^ (ballsOf cs).length - 1 := by
 intro e
 have h1 : PO.pc (ballsOf cs).length S = (ballsOf cs).length := by
  unfold PO.pc
  rw [List.countP_eq_length.2, List.length_range]
  intro i hi
  rw [e, Nat.testBit_two_pow_sub_one]
  exact decide_eq_true (List.mem_range.1 hi)
 omega
theorem begun_ev {s : ByteArray} (ht : trayOf s = some ((w : Int), (h : Int), cs)) (ho : ∀ c ∈ cs, c = 46 ∨ c = 111) (js : List Nat) (i : Nat) (hi : i < (ballsOf cs).length) (hlen : js.length ≤ 10) (hok : okc w h (w * h) (ballsOf cs) 0 js) (hb : (endS 0 js).testBit i = false) :
  Ev (fun k => impl_isBegun.f k s (told cs js ++ [rd (ballsOf cs) (i : Int)])) (eS w h (w * h) (ballsOf cs) (endS 0 js) i) := by
 have hL : Cells (w * h) (ballsOf cs) := hn ▸ cells_balls cs
 have hread := tray_read ht
 obtain ⟨o, h1⟩ := way_l0 hw1 hw hh1 hh hs hn h10 (told cs js ++ [rd (ballsOf cs) (i : Int)]) (by rw [List.length_append, told_len, List.length_singleton]; omega) i hi js 0 0 [] (Nat.le_refl _) (by rw [List.drop_zero, ← told_snoc]; rfl) (Iff.rfl) hok hb
 have hem : impl_tray_emptied.f w h cs = some ((w : Int), (h : Int), emptyC cs) := if_pos ⟨by rw [hn]; exact Nat.mul_pos hw1 hh1, by omega⟩
 have hz : nowC (w * h) (ballsOf cs) 0 = emptyC cs := by
  rw [emptyC_open ho, hn]
  refine rd_same (by rw [nowC_len hL, List.length_replicate]) fun j hj => ?_
  rw [nowC_len hL] at hj
  rw [nowC_rd hL 0 j hj, if_neg (fun ⟨i, _, h2, _⟩ => by simp at h2), rd_nat _ j (by rw [List.length_replicate]; exact hj), List.getElem_replicate]
 rw [hz] at h1
 refine Ev.bind (f := fun _ (bt101 : ByteArray × Bool) => some bt101.2) (Ev.congr h1 fun k => ?_) (Ev.const rfl)
 unfold impl_waysOf.f
 rw [hread, Option.bind_some]
 show (impl_tray_emptied.f w h cs).bind _ = _
 rw [hem, Option.bind_some]
 rfl
theorem inF_ev {s : ByteArray} (ht : trayOf s = some ((w : Int), (h : Int), cs)) (ho : ∀ c ∈ cs, c = 46 ∨ c = 111) (js : List Nat) (hlen : js.length ≤ 10) (hok : okc w h (w * h) (ballsOf cs) 0 js) (hS : endS 0 js < 2 ^ (ballsOf cs).length) :
  ∀ (m i : Nat), i + m = (ballsOf cs).length → ∀ j, nextO w h cs (endS 0 js) m i = some j → Ev (fun k => inF (impl_isBegun.f k s) (ordF k w h cs (ballsOf cs)) (ballsOf cs) (told cs js) (endS 0 js) m i) (told cs (js ++ [j]), endS 0 js + 2 ^ j)
 | 0, i, hi, j, h => by cases h
 | m + 1, i, hi, j, hj => by
  have hil : i < (ballsOf cs).length := by omega
  by_cases hb : (endS 0 js).testBit i = true
  ·unfold nextO at hj
   rw [if_neg (fun h => by rw [hb] at h; cases h.1)] at hj
   refine Ev.congr (inF_ev ht ho js hlen hok hS m (i + 1) (by omega) j hj) fun k => ?_
   rw [inF, if_pos hb]
  ·have hb2 : (endS 0 js).testBit i = false := by simpa using hb
   have h1 := begun_ev hw1 hw hh1 hh hs hn h10 ht ho js i hil hlen hok hb2
   have h2 := ordF_ev hw hh hs hn h10 ho (by rw [hn]; exact Nat.mul_pos hw1 hh1) (2 ^ (ballsOf cs).length) (endS 0 js + 2 ^ i) (Nat.le_add_right _ _) (PO.put_lt hS hil hb2)
   cases he : eS w h (w * h) (ballsOf cs) (endS 0 js) i with
   | false =>
    unfold nextO at hj
    rw [if_neg (fun h => by rw [he] at h; cases h.2.1)] at hj
    rw [he] at h1
    refine Ev.congr (Ev.bind (f := fun k (b : Bool) => if b = true then (ordF k w h cs (ballsOf cs) (endS 0 js + 2 ^ i)).bind fun c => if c > 0 then some (told cs js ++ [rd (ballsOf cs) (i : Int)], endS 0 js + 2 ^ i) else inF (impl_isBegun.f k s) (ordF k w h cs (ballsOf cs)) (ballsOf cs) (told cs js) (endS 0 js) m (i + 1) else inF (impl_isBegun.f k s) (ordF k w h cs (ballsOf cs)) (ballsOf cs) (told cs js) (endS 0 js) m (i + 1)) h1 (Ev.congr (inF_ev ht ho js hlen hok hS m (i + 1) (by omega) j hj) fun k => if_neg Bool.false_ne_true)) fun k => ?_
    rw [inF, if_neg hb]
   | true =>
    rw [he] at h1
    refine Ev.congr (Ev.bind (f := fun k (b : Bool) => if b = true then (ordF k w h cs (ballsOf cs) (endS 0 js + 2 ^ i)).bind fun c => if c > 0 then some (told cs js ++ [rd (ballsOf cs) (i : Int)], endS 0 js + 2 ^ i) else inF (impl_isBegun.f k s) (ordF k w h cs (ballsOf cs)) (ballsOf cs) (told cs js) (endS 0 js) m (i + 1) else inF (impl_isBegun.f k s) (ordF k w h cs (ballsOf cs)) (ballsOf cs) (told cs js) (endS 0 js) m (i + 1)) h1 (Ev.congr (g' := fun k => (ordF k w h cs (ballsOf cs) (endS 0 js + 2 ^ i)).bind fun c => if c > 0 then some (told cs js ++ [rd (ballsOf cs) (i : Int)], endS 0 js + 2 ^ i) else inF (impl_isBegun.f k s) (ordF k w h cs (ballsOf cs)) (ballsOf cs) (told cs js) (endS 0 js) m (i + 1)) ?_ fun k => if_pos rfl)) fun k => ?_
    ·unfold nextO at hj
     by_cases hq : cntQ w h cs (endS 0 js + 2 ^ i) ≠ 0
     ·rw [if_pos ⟨hb2, he, hq⟩] at hj
      obtain rfl := Option.some.inj hj
      refine Ev.bind (f := fun k (c : Int) => if c > 0 then some (told cs js ++ [rd (ballsOf cs) (i : Int)], endS 0 js + 2 ^ i) else inF (impl_isBegun.f k s) (ordF k w h cs (ballsOf cs)) (ballsOf cs) (told cs js) (endS 0 js) m (i + 1)) h2 (Ev.congr (Ev.const (o := some (told cs (js ++ [i]), endS 0 js + 2 ^ i)) rfl) fun k => ?_)
      rw [if_pos (by omega), told_snoc]
     ·rw [if_neg (fun h => hq h.2.2)] at hj
      refine Ev.bind (f := fun k (c : Int) => if c > 0 then some (told cs js ++ [rd (ballsOf cs) (i : Int)], endS 0 js + 2 ^ i) else inF (impl_isBegun.f k s) (ordF k w h cs (ballsOf cs)) (ballsOf cs) (told cs js) (endS 0 js) m (i + 1)) h2 (Ev.congr (inF_ev ht ho js hlen hok hS m (i + 1) (by omega) j hj) fun k => ?_)
      rw [if_neg (by omega)]
    ·rw [inF, if_neg hb]
theorem outF_ev {s : ByteArray} (ht : trayOf s = some ((w : Int), (h : Int), cs)) (ho : ∀ c ∈ cs, c = 46 ∨ c = 111) : ∀ (r : Nat) (js : List Nat), js.length + r = (ballsOf cs).length → okc w h (w * h) (ballsOf cs) 0 js → cntQ w h cs (endS 0 js) ≠ 0 → Ev (fun k => outF (impl_isBegun.f k s) (ordF k w h cs (ballsOf cs)) (ballsOf cs) r (told cs js) (endS 0 js)) (told cs (goO w h cs r js (endS 0 js)))
 | 0, js, hj, hok, hq => Ev.const rfl
 | r + 1, js, hj, hok, hq => by
  have hS := endS_lt w h (w * h) (ballsOf cs) js 0 hok (Nat.two_pow_pos _)
  have hpc := endS_pc w h (w * h) (ballsOf cs) js 0 hok
  rw [pc_zero, Nat.zero_add] at hpc
  obtain ⟨i, hi⟩ := next_is hw1 hw hh1 hh hs hn h10 (endS 0 js) hS (not_full hw1 hw hh1 hh hs hn h10 (by omega)) hq
  obtain ⟨_, h2, h3, h4, h5⟩ := next_some hw1 hw hh1 hh hs hn h10 (endS 0 js) _ 0 (Nat.zero_add _) i hi
  have h6 := inF_ev hw1 hw hh1 hh hs hn h10 ht ho js (by omega) hok hS (ballsOf cs).length 0 (Nat.zero_add _) i hi
  have h7 := outF_ev ht ho r (js ++ [i]) (by rw [List.length_append, List.length_singleton]; omega) (okc_snoc w h (w * h) (ballsOf cs) i js 0 hok h2 h3 h4) (by rw [endS_snoc]; exact h5)
  rw [endS_snoc] at h7
  rw [show goO w h cs (r + 1) js (endS 0 js) = goO w h cs r (js ++ [i]) (endS 0 js + 2 ^ i) from by rw [goO, hi]]
  exact Ev.bind (f := fun k (p : List Int × Nat) => outF (impl_isBegun.f k s) (ordF k w h cs (ballsOf cs)) (ballsOf cs) r p.1 p.2) h6 h7
theorem okc_split (i : Nat) (r : List Nat) : ∀ (pre : List Nat) (S : Nat), okc w h (w * h) (ballsOf cs) S (pre ++ i :: r) → i < (ballsOf cs).length ∧ (endS S pre).testBit i = false
 | [], S, h0 => ⟨h0.1, h0.2.1⟩
 | j :: q, S, h0 => okc_split i r q (S + 2 ^ j) h0.2.2.2
theorem sp_l1 (js : List Nat) (hlen : js.length ≤ 10) (hok : okc w h (w * h) (ballsOf cs) 0 js) (M : List Int) (S : Int) (K : List Int × Bool)
  (hK : Ev (fun k => spec_FirstOrder.l2 k (ballsOf cs) M (told cs js) S false (ballsOf cs) ((ballsOf cs).length : Int) 0 w h cs w h (nowC (w * h) (ballsOf cs) (endS 0 js))) K) :
  ∀ (rest pre : List Nat), js = pre ++ rest → Ev (fun k => spec_FirstOrder.l1 k (ballsOf cs) M (told cs js) S false (told cs js) ((told cs js).length : Int) (pre.length : Int) w h cs w h (nowC (w * h) (ballsOf cs) (endS 0 pre))) K
 | [], pre, e => by
  rw [List.append_nil] at e
  subst e
  refine Ev.step hK fun k => ?_
  rw [spec_FirstOrder.l1, if_neg (by rw [told_len]; omega)]
 | i :: r, pre, e => by
  have ih := sp_l1 js hlen hok M S K hK r (pre ++ [i]) (by rw [e, List.append_assoc]; rfl)
  have hL : Cells (w * h) (ballsOf cs) := hn ▸ cells_balls cs
  obtain ⟨hi, hb⟩ := okc_split hw1 hw hh1 hh hs hn h10 i r pre 0 (e ▸ hok)
  have hin := nowC_in hL (endS 0 pre) i hi
  unfold inCells at hin
  have hput := nowC_put hL (endS 0 pre) i hi hb
  have hl : pre.length < js.length := by rw [e, List.length_append, List.length_cons]; omega
  have hrd : rd (told cs js) (pre.length : Int) = rd (ballsOf cs) (i : Int) := by
   have hd : (told cs js).drop pre.length = rd (ballsOf cs) (i : Int) :: told cs r := by
    rw [e]
    unfold told
    rw [List.map_append, List.drop_left' (by rw [List.length_map])]
    rfl
   exact (drop_rd hd).2.1
  rw [endS_snoc, List.length_append, List.length_singleton] at ih
  refine Ev.step ih fun k => ?_
  rw [spec_FirstOrder.l1, if_pos (by rw [told_len]; omega), if_pos (by omega), if_pos (by rw [told_len]; omega), hrd, if_pos hin.1, if_pos hin.2, hput, ws pre.length (by omega)]
theorem sp_found (M out : List Int) (S : Int) (now : List Int) (K : List Int × Bool) (hK : Ev (fun k => spec_FirstOrder.l0 k (ballsOf cs) M out S w h cs) K) :
  ∀ (m i : Nat), i + m = (ballsOf cs).length → Ev (fun k => spec_FirstOrder.l2 k (ballsOf cs) M out S true (ballsOf cs) ((ballsOf cs).length : Int) (i : Int) w h cs w h now) K
 | 0, i, hi => by
  refine Ev.step hK fun k => ?_
  rw [spec_FirstOrder.l2, if_neg (by omega), if_pos rfl]
 | m + 1, i, hi => by
  have ih := sp_found M out S now K hK m (i + 1) (by omega)
  refine Ev.step ih fun k => ?_
  rw [spec_FirstOrder.l2, if_pos (by omega), if_pos (by omega), if_pos (by omega), if_pos rfl, ws i (by omega)]
theorem sp_l2 (js : List Nat) (hlen : js.length ≤ 10) (hok : okc w h (w * h) (ballsOf cs) 0 js) (K : List Int × Bool) :
  ∀ (m i : Nat) (M : List Int), i + m = (ballsOf cs).length → MV w h cs M 1 →
   (∀ j, nextO w h cs (endS 0 js) m i = some j → ∀ M', MV w h cs M' 1 → Ev (fun k => spec_FirstOrder.l0 k (ballsOf cs) M' (told cs (js ++ [j])) ((endS 0 js + 2 ^ j : Nat) : Int) w h cs) K) →
   (nextO w h cs (endS 0 js) m i = none → K = ([], false)) →
   Ev (fun k => spec_FirstOrder.l2 k (ballsOf cs) M (told cs js) ((endS 0 js : Nat) : Int) false (ballsOf cs) ((ballsOf cs).length : Int) (i : Int) w h cs w h (nowC (w * h) (ballsOf cs) (endS 0 js))) K
 | 0, i, M, hi, hM, hsome, hnone => by
  rw [hnone rfl]
  refine Ev.step (Ev.const (o := some (([] : List Int), false)) rfl) fun k => ?_
  rw [spec_FirstOrder.l2, if_neg (by omega), if_neg Bool.false_ne_true]
 | m + 1, i, M, hi, hM, hsome, hnone => by
  have hL : Cells (w * h) (ballsOf cs) := hn ▸ cells_balls cs
  have hil : i < (ballsOf cs).length := by omega
  have hin := nowC_in hL (endS 0 js) i hil
  have hS := endS_lt w h (w * h) (ballsOf cs) js 0 hok (Nat.two_pow_pos _)
  have hpc := endS_pc w h (w * h) (ballsOf cs) js 0 hok
  rw [pc_zero, Nat.zero_add] at hpc
  have hpi := Nat.two_pow_pos i
  have hp10 : 2 ^ (ballsOf cs).length ≤ 2 ^ 10 := Nat.pow_le_pow_right (by decide) h10
  have hi10 : i ≤ 10 := by omega
  have hi6 : i ≤ 1000000 := by omega
  have c1 : (i : Int) < ((ballsOf cs).length : Int) := Int.ofNat_lt.2 hil
  have c0 : (0 : Int) ≤ (i : Int) := Int.natCast_nonneg _
  have hjs : js = [] ↔ endS 0 js = 0 := by
   constructor
   ·intro e
    rw [e]
    rfl
   ·intro e
    rw [e, pc_zero] at hpc
    exact List.length_eq_zero_iff.1 hpc.symm
  unfold nextO at hsome hnone
  by_cases hb : (endS 0 js).testBit i = true
  ·have hno : ¬ ((endS 0 js).testBit i = false ∧ eS w h (w * h) (ballsOf cs) (endS 0 js) i = true ∧ cntQ w h cs (endS 0 js + 2 ^ i) ≠ 0) := fun h => by rw [hb] at h; cases h.1
   rw [if_neg hno] at hnone
   refine Ev.step (sp_l2 js hlen hok K m (i + 1) M (by omega) hM (fun j hj => hsome j (by rw [if_neg hno]; exact hj)) hnone) fun k => ?_
   rw [spec_FirstOrder.l2, if_pos c1, if_pos c0, if_pos c1, if_neg Bool.false_ne_true, if_pos (shr_one hi10 hb), ws i hi6]
  ·have hb2 : (endS 0 js).testBit i = false := by simpa using hb
   have hT : endS 0 js + 2 ^ i < 2 ^ (ballsOf cs).length := PO.put_lt hS hil hb2
   obtain ⟨M1, f1, f2, f3⟩ := goes_ev hw1 hw hh1 hh hs hn h10 (2 ^ (ballsOf cs).length) (endS 0 js + 2 ^ i) M (Nat.le_add_right _ _) (by omega) hT ⟨hM.len, fun U h1 h2 => hM.val U (by omega) h2⟩
   have hM1 : MV w h cs M1 1 := ⟨f2.len, fun U h1 h2 => by
    by_cases e2 : U < endS 0 js + 2 ^ i
    ·rw [f3 U e2]
     exact hM.val U h1 h2
    ·exact f2.val U (by omega) h2⟩
   have hol : (told cs js).length < 17592186044416 := by rw [told_len]; exact Nat.lt_of_le_of_lt hlen (by decide)
   have hwr : wrap64 (((endS 0 js : Nat) : Int) + shl .i64 1 (i : Int)) = ((endS 0 js + 2 ^ i : Nat) : Int) := by
    rw [shl_nat i hi10, show ((endS 0 js : Nat) : Int) + ((2 ^ i : Nat) : Int) = ((endS 0 js + 2 ^ i : Nat) : Int) by simp]
    exact wn _ (Nat.le_trans (Nat.le_of_lt hT) (Nat.le_trans hp10 (by decide)))
   have HWR := Aside0.mk hwr
   clear hwr
   have hgoes : eS w h (w * h) (ballsOf cs) (endS 0 js) i = true → Ev (fun k => (spec_buGoes.f k w h cs ((endS 0 js + 2 ^ i : Nat) : Int) M).bind fun bt => (if bt.1 = true then (spec_FirstOrder.l2 k (ballsOf cs) bt.2 (told cs js ++ [rd (ballsOf cs) (i : Int)]) ((endS 0 js + 2 ^ i : Nat) : Int) true (ballsOf cs) ((ballsOf cs).length : Int) ((i + 1 : Nat) : Int) w h cs w h (nowC (w * h) (ballsOf cs) (endS 0 js))) else (spec_FirstOrder.l2 k (ballsOf cs) bt.2 (told cs js) ((endS 0 js : Nat) : Int) false (ballsOf cs) ((ballsOf cs).length : Int) ((i + 1 : Nat) : Int) w h cs w h (nowC (w * h) (ballsOf cs) (endS 0 js))))) K := by
    intro he
    refine Ev.bind (f := fun k (bt : Bool × List Int) => (if bt.1 = true then (spec_FirstOrder.l2 k (ballsOf cs) bt.2 (told cs js ++ [rd (ballsOf cs) (i : Int)]) ((endS 0 js + 2 ^ i : Nat) : Int) true (ballsOf cs) ((ballsOf cs).length : Int) ((i + 1 : Nat) : Int) w h cs w h (nowC (w * h) (ballsOf cs) (endS 0 js))) else (spec_FirstOrder.l2 k (ballsOf cs) bt.2 (told cs js) ((endS 0 js : Nat) : Int) false (ballsOf cs) ((ballsOf cs).length : Int) ((i + 1 : Nat) : Int) w h cs w h (nowC (w * h) (ballsOf cs) (endS 0 js))))) f1 ?_
    by_cases hq : cntQ w h cs (endS 0 js + 2 ^ i) ≠ 0
    ·have h1 := hsome i (if_pos ⟨hb2, he, hq⟩) M1 hM1
     rw [told_snoc] at h1
     refine Ev.congr (sp_found hw1 hw hh1 hh hs hn h10 M1 _ _ (nowC (w * h) (ballsOf cs) (endS 0 js)) K h1 m (i + 1) (by omega)) fun k => ?_
     exact if_pos (decide_eq_true hq)
    ·have hno : ¬ ((endS 0 js).testBit i = false ∧ eS w h (w * h) (ballsOf cs) (endS 0 js) i = true ∧ cntQ w h cs (endS 0 js + 2 ^ i) ≠ 0) := fun h => hq h.2.2
     rw [if_neg hno] at hnone
     refine Ev.congr (sp_l2 js hlen hok K m (i + 1) M1 (by omega) hM1 (fun j hj => hsome j (by rw [if_neg hno]; exact hj)) hnone) fun k => ?_
     exact if_neg (by rw [decide_eq_false hq]; exact Bool.false_ne_true)
   by_cases hj0 : js = []
   ·have hS0 := hjs.1 hj0
    have he : eS w h (w * h) (ballsOf cs) (endS 0 js) i = true := by
     unfold eS
     rw [decide_eq_true hS0]
     rfl
    refine Ev.step (hgoes he) fun k => ?_
    rw [spec_FirstOrder.l2, if_pos c1, if_pos c0, if_pos c1, if_neg Bool.false_ne_true, if_neg (by rw [shr_zero hi10 hb2]; decide), if_neg (by rw [told_len, hj0]; decide), HWR.out, ws i hi6]
    simp only [if_pos hol]
   ·have hS0 : endS 0 js ≠ 0 := fun e => hj0 (hjs.2 e)
    have hlp : ((told cs js).length : Int) > 0 := by
     rw [told_len]
     have := List.length_pos_iff.2 hj0
     omega
    have hes : eS w h (w * h) (ballsOf cs) (endS 0 js) i = wayB w h (nowC (w * h) (ballsOf cs) (endS 0 js)) (rd (ballsOf cs) (i : Int)) := by
     unfold eS
     rw [decide_eq_false hS0, Bool.false_or]
    obtain ⟨rr, hr1, hr2⟩ := buWay_ev (cs := nowC (w * h) (ballsOf cs) (endS 0 js)) hw hh hs (nowC_len hL _) (fun c hm e => by rcases nowC_open hL _ c hm with h | h <;> omega) _ hin
    have hst : ∀ k, spec_FirstOrder.l2 (k + 1) (ballsOf cs) M (told cs js) ((endS 0 js : Nat) : Int) false (ballsOf cs) ((ballsOf cs).length : Int) (i : Int) w h cs w h (nowC (w * h) (ballsOf cs) (endS 0 js)) = (spec_buWay.f k w h (nowC (w * h) (ballsOf cs) (endS 0 js)) (rd (ballsOf cs) (i : Int))).bind fun t123 => (if t123 < 0 then (spec_FirstOrder.l2 k (ballsOf cs) M (told cs js) ((endS 0 js : Nat) : Int) false (ballsOf cs) ((ballsOf cs).length : Int) ((i + 1 : Nat) : Int) w h cs w h (nowC (w * h) (ballsOf cs) (endS 0 js))) else ((spec_buGoes.f k w h cs ((endS 0 js + 2 ^ i : Nat) : Int) M).bind fun bt => (if bt.1 = true then (spec_FirstOrder.l2 k (ballsOf cs) bt.2 (told cs js ++ [rd (ballsOf cs) (i : Int)]) ((endS 0 js + 2 ^ i : Nat) : Int) true (ballsOf cs) ((ballsOf cs).length : Int) ((i + 1 : Nat) : Int) w h cs w h (nowC (w * h) (ballsOf cs) (endS 0 js))) else (spec_FirstOrder.l2 k (ballsOf cs) bt.2 (told cs js) ((endS 0 js : Nat) : Int) false (ballsOf cs) ((ballsOf cs).length : Int) ((i + 1 : Nat) : Int) w h cs w h (nowC (w * h) (ballsOf cs) (endS 0 js)))))) := by
     intro k
     rw [spec_FirstOrder.l2, if_pos c1, if_pos c0, if_pos c1, if_neg Bool.false_ne_true, if_neg (by rw [shr_zero hi10 hb2]; decide), if_pos hlp, HWR.out, ws i hi6]
     simp only [if_pos hol]
    refine Ev.step (Ev.bind (f := fun k (t123 : Int) => (if t123 < 0 then (spec_FirstOrder.l2 k (ballsOf cs) M (told cs js) ((endS 0 js : Nat) : Int) false (ballsOf cs) ((ballsOf cs).length : Int) ((i + 1 : Nat) : Int) w h cs w h (nowC (w * h) (ballsOf cs) (endS 0 js))) else ((spec_buGoes.f k w h cs ((endS 0 js + 2 ^ i : Nat) : Int) M).bind fun bt => (if bt.1 = true then (spec_FirstOrder.l2 k (ballsOf cs) bt.2 (told cs js ++ [rd (ballsOf cs) (i : Int)]) ((endS 0 js + 2 ^ i : Nat) : Int) true (ballsOf cs) ((ballsOf cs).length : Int) ((i + 1 : Nat) : Int) w h cs w h (nowC (w * h) (ballsOf cs) (endS 0 js))) else (spec_FirstOrder.l2 k (ballsOf cs) bt.2 (told cs js) ((endS 0 js : Nat) : Int) false (ballsOf cs) ((ballsOf cs).length : Int) ((i + 1 : Nat) : Int) w h cs w h (nowC (w * h) (ballsOf cs) (endS 0 js))))))) hr1 ?_) hst
    by_cases hway : 0 ≤ rr
    ·exact Ev.congr (hgoes (hes.trans (hr2.1 hway))) fun k => if_neg (by omega)
    ·have hno : ¬ ((endS 0 js).testBit i = false ∧ eS w h (w * h) (ballsOf cs) (endS 0 js) i = true ∧ cntQ w h cs (endS 0 js + 2 ^ i) ≠ 0) := fun h => hway (hr2.2 (hes ▸ h.2.1))
     rw [if_neg hno] at hnone
     exact Ev.congr (sp_l2 js hlen hok K m (i + 1) M (by omega) hM (fun j hj => hsome j (by rw [if_neg hno]; exact hj)) hnone) fun k => if_pos (by omega)
theorem sp_l0 : ∀ (r : Nat) (js : List Nat) (M : List Int), js.length + r = (ballsOf cs).length → okc w h (w * h) (ballsOf cs) 0 js → MV w h cs M 1 → cntQ w h cs (endS 0 js) ≠ 0 → Ev (fun k => spec_FirstOrder.l0 k (ballsOf cs) M (told cs js) ((endS 0 js : Nat) : Int) w h cs) (told cs (goO w h cs r js (endS 0 js)), true)
 | 0, js, M, hj, hok, hM, hq => by
  refine Ev.step (Ev.const (o := some (told cs (goO w h cs 0 js (endS 0 js)), true)) rfl) fun k => ?_
  rw [spec_FirstOrder.l0, if_neg (by rw [told_len]; omega)]
  rfl
 | r + 1, js, M, hj, hok, hM, hq => by
  have hS := endS_lt w h (w * h) (ballsOf cs) js 0 hok (Nat.two_pow_pos _)
  have hpc := endS_pc w h (w * h) (ballsOf cs) js 0 hok
  rw [pc_zero, Nat.zero_add] at hpc
  obtain ⟨i, hi⟩ := next_is hw1 hw hh1 hh hs hn h10 (endS 0 js) hS (not_full hw1 hw hh1 hh hs hn h10 (by omega)) hq
  obtain ⟨_, h2, h3, h4, h5⟩ := next_some hw1 hw hh1 hh hs hn h10 (endS 0 js) _ 0 (Nat.zero_add _) i hi
  rw [show goO w h cs (r + 1) js (endS 0 js) = goO w h cs r (js ++ [i]) (endS 0 js + 2 ^ i) from by rw [goO, hi]]
  have h6 := sp_l2 hw1 hw hh1 hh hs hn h10 js (by omega) hok (told cs (goO w h cs r (js ++ [i]) (endS 0 js + 2 ^ i)), true) (ballsOf cs).length 0 M (Nat.zero_add _) hM (fun j hj2 M' hM' => by
   rw [hi] at hj2
   obtain rfl := Option.some.inj hj2
   have h7 := sp_l0 r (js ++ [i]) M' (by rw [List.length_append, List.length_singleton]; omega) (okc_snoc w h (w * h) (ballsOf cs) i js 0 hok h2 h3 h4) hM' (by rw [endS_snoc]; exact h5)
   rw [endS_snoc] at h7
   exact h7) (fun h => by rw [hi] at h; cases h)
  have h8 := sp_l1 hw1 hw hh1 hh hs hn h10 js (by omega) hok M ((endS 0 js : Nat) : Int) _ h6 js [] rfl
  have hL : Cells (w * h) (ballsOf cs) := hn ▸ cells_balls cs
  have hz : nowC (w * h) (ballsOf cs) (endS 0 []) = List.replicate (w * h) 46 := by
   refine rd_same (by rw [nowC_len hL, List.length_replicate]) fun j hj => ?_
   rw [nowC_len hL] at hj
   rw [nowC_rd hL _ j hj, if_neg (fun ⟨i, _, h2, _⟩ => by simp [endS] at h2), rd_nat _ j (by rw [List.length_replicate]; exact hj), List.getElem_replicate]
  rw [hz] at h8
  refine Ev.step (Ev.bind (f := fun k (bt114 : Int × Int × List Int) => (spec_FirstOrder.l1 k (ballsOf cs) M (told cs js) ((endS 0 js : Nat) : Int) false (told cs js) ((told cs js).length : Int) 0 w h cs bt114.1 bt114.2.1 bt114.2.2)) (empty_ev hs) h8) fun k => ?_
  rw [spec_FirstOrder.l0, if_pos (by rw [told_len]; omega)]
theorem sp_none (h1n : 1 ≤ (ballsOf cs).length) (M : List Int) (hM : MV w h cs M 1) (hq : cntQ w h cs 0 = 0) : Ev (fun k => spec_FirstOrder.l0 k (ballsOf cs) M [] 0 w h cs) ([], false) := by
 have hpp : 1 < 2 ^ (ballsOf cs).length := Nat.one_lt_two_pow (by omega)
 have h6 := sp_l2 hw1 hw hh1 hh hs hn h10 [] (Nat.zero_le _) trivial ([], false) (ballsOf cs).length 0 M (Nat.zero_add _) hM (fun j hj M' hM' => by
  obtain ⟨_, h2, h3, h4, h5⟩ := next_some hw1 hw hh1 hh hs hn h10 (endS 0 []) _ 0 (Nat.zero_add _) j hj
  exact absurd hq ((cnt_step hw1 hw hh1 hh hs hn h10 0 (Nat.two_pow_pos _) (by omega)).2 ⟨j, h2, h3, h4, h5⟩)) (fun _ => rfl)
 have h8 := sp_l1 hw1 hw hh1 hh hs hn h10 [] (Nat.zero_le _) trivial M ((endS 0 [] : Nat) : Int) _ h6 [] [] rfl
 have hL : Cells (w * h) (ballsOf cs) := hn ▸ cells_balls cs
 have hz : nowC (w * h) (ballsOf cs) (endS 0 []) = List.replicate (w * h) 46 := by
  refine rd_same (by rw [nowC_len hL, List.length_replicate]) fun j hj => ?_
  rw [nowC_len hL] at hj
  rw [nowC_rd hL _ j hj, if_neg (fun ⟨i, _, h2, _⟩ => by simp [endS] at h2), rd_nat _ j (by rw [List.length_replicate]; exact hj), List.getElem_replicate]
 rw [hz] at h8
 refine Ev.step (Ev.bind (f := fun k (bt114 : Int × Int × List Int) => (spec_FirstOrder.l1 k (ballsOf cs) M [] 0 false [] 0 0 w h cs bt114.1 bt114.2.1 bt114.2.2)) (empty_ev hs) h8) fun k => ?_
 rw [spec_FirstOrder.l0, if_pos (by show ((0 : Nat) : Int) < _; omega)]
 rfl
end
theorem goO_len (w h : Nat) (cs : List Int) : ∀ (r : Nat) (js : List Nat) (S : Nat), (goO w h cs r js S).length ≤ js.length + r
 | 0, js, S => Nat.le_refl _
 | r + 1, js, S => by
  unfold goO
  split
  ·rename_i i _
   have := goO_len w h cs r (js ++ [i]) (S + 2 ^ i)
   rw [List.length_append, List.length_singleton] at this
   omega
  ·omega
theorem FirstOrderR_len (s : ByteArray) : (FirstOrderR s).1.length ≤ 1000000 := by
 unfold FirstOrderR
 rcases hf : formOf s with _ | t
 ·exact Nat.zero_le _
 ·obtain ⟨w, h, cs, rfl, hw1, hw, hh1, hh, hs, hn, hk, ht⟩ := form_parts hf
  have h1 := goO_len (w : Int).toNat (h : Int).toNat cs (ballsOf cs).length [] 0
  have h2 := hk.2.1.2
  show (if cntQ (w : Int).toNat (h : Int).toNat cs 0 ≠ 0 then (told cs (goO (w : Int).toNat (h : Int).toNat cs (ballsOf cs).length [] 0), true) else (([] : List Int), false)).1.length ≤ 1000000
  split
  ·show (told cs (goO (w : Int).toNat (h : Int).toNat cs (ballsOf cs).length [] 0)).length ≤ 1000000
   rw [told_len]
   rw [List.length_nil] at h1
   omega
  ·exact Nat.zero_le _
theorem specFirstOrder_ev (s : ByteArray) : Ev (fun k => spec_FirstOrder.f k s) (FirstOrderR s) := by
 refine Ev.bind (f := fun k (bt101 : Int × Int × List Int × Bool) => (if bt101.2.2.2 = true then ((spec_tyBalls.f k bt101.1 bt101.2.1 bt101.2.2.1).bind fun t108 => (if t108.length ≤ 10 then (if 0 ≤ (shl .i64 1 (t108.length : Int)) then (if (shl .i64 1 (t108.length : Int) : Int).toNat ≤ 35184372088832 then (spec_FirstOrder.l0 k t108 (List.replicate (shl .i64 1 (t108.length : Int) : Int).toNat 0) ([] : List Int) 0 bt101.1 bt101.2.1 bt101.2.2.1) else (none)) else (none)) else (none))) else (some (([] : List Int), false)))) (buRead_ev s) ?_
 unfold FirstOrderR
 rcases hf : formOf s with _ | t
 ·rcases ht : trayOf s with _ | ⟨w, h, cs⟩
  ·exact Ev.const rfl
  ·have hk : ¬ formOK w.toNat h.toNat cs := by
    intro hk
    unfold formOf at hf
    rw [ht, Option.bind_some, if_pos hk] at hf
    cases hf
   refine Ev.congr (Ev.const (o := some (([] : List Int), false)) rfl) fun k => ?_
   show (if decide (formOK w.toNat h.toNat cs) = true then _ else _) = _
   rw [decide_eq_false hk, if_neg (by decide)]
 ·obtain ⟨w, h, cs, rfl, hw1, hw, hh1, hh, hs, hn, hk, ht⟩ := form_parts hf
  rw [ht]
  simp only [Int.toNat_natCast]
  have hp10 : 2 ^ (ballsOf cs).length ≤ 2 ^ 10 := Nat.pow_le_pow_right (by decide) hk.2.1.2
  have hM : MV w h cs (List.replicate (2 ^ (ballsOf cs).length) 0) 1 := ⟨List.length_replicate, fun U _ hU => Or.inl (by rw [rd_nat _ U (by rw [List.length_replicate]; exact hU), List.getElem_replicate])⟩
  have h1 : Ev (fun k => spec_FirstOrder.l0 k (ballsOf cs) (List.replicate (2 ^ (ballsOf cs).length) 0) [] 0 w h cs) (if cntQ w h cs 0 ≠ 0 then (told cs (goO w h cs (ballsOf cs).length [] 0), true) else ([], false)) := by
   by_cases hq : cntQ w h cs 0 ≠ 0
   ·rw [if_pos hq]
    exact sp_l0 hw1 hw hh1 hh hs hn hk.2.1.2 (ballsOf cs).length [] _ (Nat.zero_add _) trivial hM hq
   ·rw [if_neg hq]
    exact sp_none hw1 hw hh1 hh hs hn hk.2.1.2 hk.2.1.1 _ hM (Classical.byContradiction fun e => hq e)
  refine Ev.congr (g' := fun k => (spec_tyBalls.f k w h cs).bind fun t108 => (if t108.length ≤ 10 then (if 0 ≤ (shl .i64 1 (t108.length : Int)) then (if (shl .i64 1 (t108.length : Int) : Int).toNat ≤ 35184372088832 then (spec_FirstOrder.l0 k t108 (List.replicate (shl .i64 1 (t108.length : Int) : Int).toNat 0) ([] : List Int) 0 w h cs) else (none)) else (none)) else (none))) ?_ fun k => by rw [decide_eq_true hk, if_pos rfl]
  refine Ev.bind (f := fun k (t108 : List Int) => (if t108.length ≤ 10 then (if 0 ≤ (shl .i64 1 (t108.length : Int)) then (if (shl .i64 1 (t108.length : Int) : Int).toNat ≤ 35184372088832 then (spec_FirstOrder.l0 k t108 (List.replicate (shl .i64 1 (t108.length : Int) : Int).toNat 0) ([] : List Int) 0 w h cs) else (none)) else (none)) else (none))) (tyBalls_ev cs (by omega) w h) (Ev.congr h1 fun k => ?_)
  rw [if_pos hk.2.1.2, shl_nat _ hk.2.1.2, if_pos (Int.natCast_nonneg _), Int.toNat_natCast, if_pos (Nat.le_trans hp10 (by decide))]
theorem implFirstOrder_ev (s : ByteArray) (hs : s.size ≤ 1048576) : Ev (fun k => impl_FirstOrder.f k s) (FirstOrderR s) := by
 refine Ev.bind (f := fun k (c : Bool × Bool) => if c.1 = true then (impl_read.f s).bind fun g => (impl_tray_indices_isBall.f k g.1 g.2.1 g.2.2 ()).bind fun L => if L.length ≤ 10 then (outF (impl_isBegun.f k s) (ordF k g.1 g.2.1 g.2.2 L) L L.length [] 0).bind fun out => some (out, true) else none else some ([], false)) (implCanBuild_ev s hs) ?_
 unfold FirstOrderR CountOrdersR
 rcases hf : formOf s with _ | t
 ·exact Ev.congr (Ev.const (o := some (([] : List Int), false)) rfl) fun k => if_neg (by decide)
 ·obtain ⟨w, h, cs, rfl, hw1, hw, hh1, hh, hs2, hn, hk, ht⟩ := form_parts hf
  have hread := tray_read ht
  simp only [Int.toNat_natCast]
  by_cases hq : cntQ w h cs 0 ≠ 0
  ·rw [if_pos hq]
   have h1 := outF_ev hw1 hw hh1 hh hs2 hn hk.2.1.2 ht (form_open hk) (ballsOf cs).length [] (Nat.zero_add _) trivial hq
   refine Ev.congr (g' := fun k => (impl_tray_indices_isBall.f k w h cs ()).bind fun L => if L.length ≤ 10 then (outF (impl_isBegun.f k s) (ordF k w h cs L) L L.length [] 0).bind fun out => some (out, true) else none) ?_ fun k => ?_
   ·refine Ev.bind (f := fun k L => if L.length ≤ 10 then (outF (impl_isBegun.f k s) (ordF k w h cs L) L L.length [] 0).bind fun out => some (out, true) else none) (indices_ev cs (by rw [hn]; exact hs2) w h) ?_
    refine Ev.congr (Ev.bind (f := fun _ (out : List Int) => some (out, true)) h1 (Ev.const rfl)) fun k => ?_
    exact if_pos hk.2.1.2
   ·refine (if_pos (decide_eq_true (show ((cntQ w h cs 0 : Nat) : Int) > 0 by omega))).trans ?_
    rw [hread, Option.bind_some]
  ·rw [if_neg hq]
   refine Ev.congr (Ev.const (o := some (([] : List Int), false)) rfl) fun k => ?_
   have hz : cntQ w h cs 0 = 0 := Classical.byContradiction fun e => hq e
   refine if_neg fun hd => ?_
   have h2 : ((cntQ w h cs 0 : Nat) : Int) > 0 := of_decide_eq_true hd
   omega
theorem lawFirstOrder_ev (s : ByteArray) : Ev (fun k => laws_FnExactFirstOrder.f k s) true := by
 by_cases hs : s.size ≤ 1048576
 case neg =>
  refine Ev.congr (Ev.const (o := some true) rfl) fun k => ?_
  unfold laws_FnExactFirstOrder.f
  exact if_pos (by omega)
 have hsp := specFirstOrder_ev s
 have him := implFirstOrder_ev s hs
 have hl := FirstOrderR_len s
 obtain ⟨l, hl1, hl2, hmk⟩ := mark_ev (FirstOrderR s).1 1 (by omega) (by omega) (by omega)
 have hhd := held_ev l 1 (by omega) (by omega) (by omega) (by rw [hl1]; exact hl2)
 have heq := eqInts_ev (FirstOrderR s).1 (by omega)
 have e0 : (1 : Int) + l.length = 1 + (FirstOrderR s).1.length := by rw [hl1]
 rw [e0] at hhd
 have c1 : ¬ (1 : Int) + (FirstOrderR s).1.length < 0 := by omega
 have hj1 : Ev (fun k => laws_FnExactFirstOrder.j1 k l (1 + (FirstOrderR s).1.length) false) true := by
  refine Ev.step (Ev.bind (f := fun _ t118 => (if t118 < 0 then (some false) else (if t118 = (1 : Int) + (FirstOrderR s).1.length then (some true) else (some false)))) hhd (Ev.const ?_)) fun k => ?_
  ·rw [if_neg c1, if_pos rfl]
  ·rw [laws_FnExactFirstOrder.j1, if_neg (by decide)]
 have hj0 : Ev (fun k => laws_FnExactFirstOrder.j0 k s (FirstOrderR s).1 (FirstOrderR s).2 (FirstOrderR s).1 false) true := by
  refine Ev.step (Ev.bind (f := fun k bt110 => ((laws_heldIntS.f k bt110.2 1).bind fun t112 => (if t112 < 0 then (some false) else (if t112 = bt110.1 then ((impl_FirstOrder.f k s).bind fun bt113 => ((laws_eqIntS.f k bt113.1 (FirstOrderR s).1).bind fun t117 => (if t117 = true then (laws_FnExactFirstOrder.j1 k bt110.2 bt110.1 (bt113.2 != (FirstOrderR s).2)) else (laws_FnExactFirstOrder.j1 k bt110.2 bt110.1 true)))) else (some false))))) hmk ?_) fun k => ?_
  ·refine Ev.bind (f := fun k t112 => (if t112 < 0 then (some false) else (if t112 = (1 : Int) + (FirstOrderR s).1.length then ((impl_FirstOrder.f k s).bind fun bt113 => ((laws_eqIntS.f k bt113.1 (FirstOrderR s).1).bind fun t117 => (if t117 = true then (laws_FnExactFirstOrder.j1 k l (1 + (FirstOrderR s).1.length) (bt113.2 != (FirstOrderR s).2)) else (laws_FnExactFirstOrder.j1 k l (1 + (FirstOrderR s).1.length) true)))) else (some false)))) hhd ?_
   refine Ev.congr (Ev.bind (f := fun k bt113 => ((laws_eqIntS.f k bt113.1 (FirstOrderR s).1).bind fun t117 => (if t117 = true then (laws_FnExactFirstOrder.j1 k l (1 + (FirstOrderR s).1.length) (bt113.2 != (FirstOrderR s).2)) else (laws_FnExactFirstOrder.j1 k l (1 + (FirstOrderR s).1.length) true)))) him ?_) fun k => ?_
   ·refine Ev.bind (f := fun k t117 => (if t117 = true then (laws_FnExactFirstOrder.j1 k l (1 + (FirstOrderR s).1.length) ((FirstOrderR s).2 != (FirstOrderR s).2)) else (laws_FnExactFirstOrder.j1 k l (1 + (FirstOrderR s).1.length) true))) heq ?_
    refine Ev.congr hj1 fun k => ?_
    rw [if_pos rfl, bne_self_eq_false]
   ·rw [if_neg c1, if_pos rfl]
  ·rw [laws_FnExactFirstOrder.j0, if_neg (by decide)]
 refine Ev.congr (Ev.bind (f := fun k (bt101 : List Int × Bool) => ((impl_FirstOrder.f k s).bind fun bt105 => ((laws_eqIntS.f k bt105.1 bt101.1).bind fun t109 => (if t109 = true then (laws_FnExactFirstOrder.j0 k s bt101.1 bt101.2 bt105.1 (bt105.2 != bt101.2)) else (laws_FnExactFirstOrder.j0 k s bt101.1 bt101.2 bt105.1 true))))) hsp ?_) fun k => by unfold laws_FnExactFirstOrder.f; rw [if_neg (by omega)]
 refine Ev.bind (f := fun k bt105 => ((laws_eqIntS.f k bt105.1 (FirstOrderR s).1).bind fun t109 => (if t109 = true then (laws_FnExactFirstOrder.j0 k s (FirstOrderR s).1 (FirstOrderR s).2 bt105.1 (bt105.2 != (FirstOrderR s).2)) else (laws_FnExactFirstOrder.j0 k s (FirstOrderR s).1 (FirstOrderR s).2 bt105.1 true)))) him ?_
 refine Ev.bind (f := fun k t109 => (if t109 = true then (laws_FnExactFirstOrder.j0 k s (FirstOrderR s).1 (FirstOrderR s).2 (FirstOrderR s).1 ((FirstOrderR s).2 != (FirstOrderR s).2)) else (laws_FnExactFirstOrder.j0 k s (FirstOrderR s).1 (FirstOrderR s).2 (FirstOrderR s).1 true))) heq ?_
 refine Ev.congr hj0 fun k => ?_
 rw [if_pos rfl, bne_self_eq_false]
end Go.Proofs.YtmefnfhghfemgaaDoor.Q
end
