/- Texts of this claim, joined. -/
import Derived.Test.YtcpeldgnabfdmaaDoorJCountStillWith04
set_option linter.unusedVariables false
set_option linter.unusedSimpArgs false
set_option linter.unusedSectionVars false
section
namespace Go.Proofs.YtcpeldgnabfdmaaDoor.Q
set_option linter.unusedSectionVars false
open Go.RowKit Go.Proofs.YtcpeldgnabfdmaaDoorW.PrintWords Go.Proofs.YtcpeldgnabfdmaaDoorW.PrintLast Go.Proofs.YtcpeldgnabfdmaaDoorW.PrintMore
open Classical
theorem l1In_val (a lo hi : Int) : spec_l1In.f a lo hi = some (decide (lo ≤ a ∧ a ≤ hi)) := by
 unfold spec_l1In.f
 by_cases h : a ≥ lo
 ·rw [if_pos h]
  congr 1
  exact decide_eq_decide.2 (by omega)
 ·rw [if_neg h, decide_eq_false (by omega)]
section
variable {w h : Nat} {cs : List Int} (hw : w ≤ 7) (hh : h ≤ 7) (hs : w * h ≤ 36) {d : Nat} (hd : d < 4)
include hw hh hs hd
theorem opens_str (hn : cs.length = w * h) : (opensTo cs cs.length).length ≤ (strL w h cs d).flatten.length := by
 refine sub_len _ _ ?_ fun x hx => ?_
 ·unfold opensTo
  refine List.pairwise_map.2 (List.Pairwise.imp (fun {a b} hab e => hab (by omega)) (List.nodup_range.filter _))
 ·unfold opensTo at hx
  obtain ⟨j, hj, rfl⟩ := List.mem_map.1 hx
  obtain ⟨h1, h2⟩ := List.mem_filter.1 hj
  refine ((List.mergeSort_perm (cutsL w h cs d) leM).flatten.mem_iff).2 ?_
  rw [cuts_flat]
  exact List.mem_filter.2 ⟨(lines_ok hw hh hs hd).2.1 j (by have := List.mem_range.1 h1; omega), by simpa using h2⟩
end
def CountStillWithR (t s : ByteArray) (a : Int) : Int × Bool := match trayOf t with
 | none => (0, false)
 | some (w, h, cs) => if (noB cs = true ∧ 0 ≤ dirI s) ∧ 0 ≤ a ∧ a ≤ ((cs.count 46 : Nat) : Int) then (rd (waysI (strL w.toNat h.toNat cs (dirI s).toNat) [1]) a, true) else (0, false)
theorem cnDir_ev (t s : ByteArray) (a : Int) : Ev (fun k => spec_cnDir.f k t s a) (match trayOf t with | none => (0, 0, [], dirI s, false) | some (w, h, cs) => (w, h, cs, dirI s, decide ((noB cs = true ∧ 0 ≤ dirI s) ∧ 0 ≤ a ∧ a ≤ ((cs.count 46 : Nat) : Int)))) := by
 refine Ev.bind (f := fun k (bt102 : Int × Int × List Int × Int × Bool) => ((spec_tiDir.f k s).bind fun t110 => (if bt102.2.2.2.2 = true then (if t110 ≥ 0 then ((spec_l1In.f a 0 bt102.2.2.2.1).bind fun t111 => (some (bt102.1, bt102.2.1, bt102.2.2.1, t110, t111))) else (some (bt102.1, bt102.2.1, bt102.2.2.1, t110, false))) else (some (bt102.1, bt102.2.1, bt102.2.2.1, t110, false))))) (cnBare_ev t) ?_
 refine Ev.bind (f := fun k t110 => _) (tiDir_ev s) (Ev.const ?_)
 rcases ht : trayOf t with _ | ⟨w, h, cs⟩
 ·exact if_neg Bool.false_ne_true
 ·by_cases hb : noB cs = true
  ·simp only [hb, if_true, true_and]
   by_cases hd : 0 ≤ dirI s
   ·rw [if_pos hd, l1In_val, Option.bind_some]
    simp [hd]
   ·rw [if_neg hd]
    simp [hd]
  ·have hb : noB cs = false := by simpa using hb
   simp [hb]
theorem specCountStillWith_ev (t s : ByteArray) (a : Int) : Ev (fun k => spec_CountStillWith.f k t s a) (CountStillWithR t s a) := by
 refine Ev.bind (f := fun k (bt101 : Int × Int × List Int × Int × Bool) => (if bt101.2.2.2.2 = true then ((spec_cnStillWith.f k bt101.1 bt101.2.1 bt101.2.2.1 bt101.2.2.2.1 a).bind fun t109 => (some (t109, true))) else (some (0, false)))) (cnDir_ev t s a) ?_
 unfold CountStillWithR
 rcases ht : trayOf t with _ | ⟨w, h, cs⟩
 ·exact Ev.congr (Ev.const rfl) fun k => if_neg Bool.false_ne_true
 ·obtain ⟨w, h, cs, e, hw1, hw, hh1, hh, hs, hn⟩ := tray_parts ht
  injection e with e1 e2
  injection e2 with e2 e3
  subst e1 e2 e3
  have hz : 0 < w * h := Nat.mul_pos hw1 hh1
  show Ev _ (if (noB cs = true ∧ 0 ≤ dirI s) ∧ 0 ≤ a ∧ a ≤ ((cs.count 46 : Nat) : Int) then _ else _)
  by_cases hc : (noB cs = true ∧ 0 ≤ dirI s) ∧ 0 ≤ a ∧ a ≤ ((cs.count 46 : Nat) : Int)
  ·rw [if_pos hc]
   obtain ⟨d, hd4, e, _⟩ := dirI_nat hc.1.2
   rw [e]
   simp only [Int.toNat_natCast]
   obtain ⟨B, rfl⟩ := Int.eq_ofNat_of_zero_le hc.2.1
   have hcnt : cs.count 46 ≤ cs.length := List.count_le_length
   have hm := cuts_many hw hh hs hd4 (cs := cs)
   have hm2 : (strL w h cs d).length = (cutsL w h cs d).length := by unfold strL; exact List.length_mergeSort _
   have hB := hc.2.2
   have hcut : cutOf [1] ((List.replicate (B + 1) 0).set 0 1) B := by
    refine ⟨by simp, fun t ht => ?_⟩
    rw [rd_setN _ _ _ _ (by simp), rd_zeros]
    by_cases e : t = 0
    ·rw [if_pos e, if_pos (by simp [e]), e]
     rfl
    ·rw [if_neg e, if_neg (by simp; omega)]
   have hop := opens_str hw hh hs hd4 hn
   have hct := opens_count cs (bare_two (tray_own ht).1 hc.1.1) cs.length (Nat.le_refl _)
   rw [List.take_length] at hct
   have hwl := waysI_len (strL w h cs d) [1]
   rw [List.length_singleton] at hwl
   have hval := (ways_cut B (strL w h cs d) _ _ hcut).2 B (Nat.le_refl _)
   rw [if_pos (by omega)] at hval
   rw [← hval]
   have h0 := wS_l0 B (by omega) (strL w h cs d) (strL w h cs d) 0 ((List.replicate (B + 1) 0).set 0 1) rfl (Nat.zero_le _) (by omega) (fun S hS => (str_in hw hh hs hd4 hn S hS).1) (by simp)
   have hbig : B + 1 ≤ 35184372088832 := Nat.le_trans (show B + 1 ≤ 37 by omega) (by decide)
   refine Ev.congr (Ev.bind (f := fun _ t109 => some (t109, true)) (g := fun k => spec_cnStillWith.f k w h cs d B) (Ev.congr (Ev.bind (f := fun k t106 => spec_cnStillWith.l0 k (B : Int) ((List.replicate (B + 1) 0).set 0 1) t106 (t106.length : Int) 0) (tiStretches_ev hw hh hs hd4 hn) h0) fun k => ?_) (Ev.const rfl)) fun k => ?_
   ·unfold spec_cnStillWith.f
    rw [wr1 B (by omega), if_pos (by omega), Int.toNat_natCast, if_pos hbig, Option.bind_some, if_pos (by first | (simp; done) | (simp; omega))]
    rfl
   ·rw [e] at hc
    exact if_pos (decide_eq_true hc)
  ·rw [if_neg hc]
   exact Ev.congr (Ev.const rfl) fun k => if_neg (by simp only [decide_eq_true_eq]; exact hc)
theorem implCountStillWith_ev (t s : ByteArray) (a : Int) (ht0 : t.size ≤ 1048576) (_hs0 : s.size ≤ 1048576) : Ev (fun k => impl_CountStillWith.f k t s a) (CountStillWithR t s a) := by
 refine Ev.bind (f := fun k (t101 : Bool) => (if t101 = true then ((impl_isDir.f s).bind fun t102 => (impl_CountStillWith.j0 k t s a (!t102))) else (impl_CountStillWith.j0 k t s a true))) (isStocked_ev t ht0 a) ?_
 have hno : Ev (fun k => impl_CountStillWith.j0 k t s a true) (0, false) := by
  refine Ev.step (Ev.const (o := some (0, false)) rfl) fun k => ?_
  rw [impl_CountStillWith.j0, if_pos rfl]
 unfold CountStillWithR
 rcases ht : trayOf t with _ | ⟨w, h, cs⟩
 ·exact Ev.congr hno fun k => if_neg Bool.false_ne_true
 ·have hread := tray_read ht
  obtain ⟨w, h, cs, e, hw1, hw, hh1, hh, hs, hn⟩ := tray_parts ht
  injection e with e1 e2
  injection e2 with e2 e3
  subst e1 e2 e3
  have hz : 0 < w * h := Nat.mul_pos hw1 hh1
  show Ev _ (if (noB cs = true ∧ 0 ≤ dirI s) ∧ 0 ≤ a ∧ a ≤ ((cs.count 46 : Nat) : Int) then _ else _)
  by_cases hc : (noB cs = true ∧ 0 ≤ dirI s) ∧ 0 ≤ a ∧ a ≤ ((cs.count 46 : Nat) : Int)
  ·rw [if_pos hc]
   obtain ⟨⟨c1, c2⟩, c3⟩ := hc
   obtain ⟨d, hd4, e, rfl⟩ := dirI_nat c2
   have hdec : decide (0 ≤ dirI ⟨#[dirB d]⟩) = true := decide_eq_true c2
   rw [e]
   simp only [Int.toNat_natCast]
   obtain ⟨b1, b2⟩ := bt_dir ⟨d, hd4⟩
   simp only at b1 b2
   obtain ⟨B, rfl⟩ := Int.eq_ofNat_of_zero_le c3.1
   have hcnt : cs.count 46 ≤ cs.length := List.count_le_length
   have hm := cuts_many hw hh hs hd4 (cs := cs)
   have hm2 : (strL w h cs d).length = (cutsL w h cs d).length := by unfold strL; exact List.length_mergeSort _
   have hB := c3.2
   have hop := opens_str hw hh hs hd4 hn
   have htot := str_total hw hh hs hd4 hn
   have hct := opens_count cs (bare_two (tray_own ht).1 c1) cs.length (Nat.le_refl _)
   rw [List.take_length] at hct
   have hwl := waysI_len (strL w h cs d) [1]
   rw [List.length_singleton] at hwl
   have h0 := wI_l0 B (strL w h cs d) (strL w h cs d) 0 [1] rfl (Nat.zero_le _) (by omega) (by rw [List.length_singleton]; omega) (by omega)
   refine Ev.congr (Ev.step (g := fun k => impl_CountStillWith.j0 k t ⟨#[dirB d]⟩ B false) (Ev.bind (f := fun k t111 => impl_CountStillWith.l0 k B ([1] : List Int) t111 (t111.length : Int) 0) (stretches_ev hw hh hs hd4 hw1 hh1 hn) h0) fun k => ?_) fun k => ?_
   ·rw [impl_CountStillWith.j0, if_neg (by decide), hread, Option.bind_some, if_pos b1, b2]
   ·rw [if_pos (show (noB cs && decide (0 ≤ (B : Int) ∧ (B : Int) ≤ ((cs.count 46 : Nat) : Int))) = true by rw [c1, Bool.true_and, decide_eq_true_iff]; exact c3), isDir_eq, Option.bind_some, hdec]
    rfl
  ·rw [if_neg hc]
   by_cases h1 : (noB cs && decide (0 ≤ a ∧ a ≤ ((cs.count 46 : Nat) : Int))) = true
   ·have hd : ¬ 0 ≤ dirI s := fun h2 => by
     simp only [Bool.and_eq_true, decide_eq_true_eq] at h1
     exact hc ⟨⟨h1.1, h2⟩, h1.2⟩
    refine Ev.congr hno fun k => ?_
    rw [if_pos h1, isDir_eq, Option.bind_some, decide_eq_false hd]
    rfl
   ·exact Ev.congr hno fun k => if_neg h1
theorem lawCountStillWith_ev (t : ByteArray) (s : ByteArray) (a : Int) : Ev (fun k => laws_FnExactCountStillWith.f k t s a) true := by
 by_cases ht : t.size ≤ 1048576
 case neg =>
  refine Ev.congr (Ev.const (o := some true) rfl) fun k => ?_
  unfold laws_FnExactCountStillWith.f
  exact if_pos (by omega)
 by_cases hs : s.size ≤ 1048576
 case neg =>
  refine Ev.congr (Ev.const (o := some true) rfl) fun k => ?_
  unfold laws_FnExactCountStillWith.f
  rw [if_neg (by omega)]
  exact if_pos (by omega)
 have hsp := specCountStillWith_ev t s a
 have him := implCountStillWith_ev t s a ht hs
 refine Ev.congr (Ev.bind (f := fun k (bt101 : Int × Bool) => ((impl_CountStillWith.f k t s a).bind fun bt103 => (if bt103.1 = bt101.1 then (if (bt103.2 != bt101.2) = true then (some false) else (some true)) else (some false)))) hsp (Ev.bind (f := fun _ (bt103 : Int × Bool) => (if bt103.1 = (CountStillWithR t s a).1 then (if (bt103.2 != (CountStillWithR t s a).2) = true then (some false) else (some true)) else (some false))) him (Ev.const ?_))) fun k => by unfold laws_FnExactCountStillWith.f; rw [if_neg (by omega), if_neg (by omega)]
 rw [if_pos rfl, bne_self_eq_false, if_neg (by decide)]
end Go.Proofs.YtcpeldgnabfdmaaDoor.Q
end
