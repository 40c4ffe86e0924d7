/- The balls' pieces: both walks find the same. -/
import Derived.Test.YtbplbbialcbceaaDoorPnear
import Derived.Test.YtbplbbialcbceaaDoorQb
namespace Go.Proofs.YtbplbbialcbceaaDoor.Q
open Go.RowKit Go.Proofs.YtbplbbialcbceaaDoorW.PrintWords Go.Proofs.YtbplbbialcbceaaDoorW.PrintLast Go.Proofs.YtbplbbialcbceaaDoorW.PrintMore
set_option linter.unusedSectionVars false
section
open Classical
def isB (a : Int) : Bool := decide (a = 111 ∨ (97 ≤ a ∧ a ≤ 102))
theorem tyBall_eq (a : Int) : spec_tyBall.f a = some (isB a) := by
  unfold spec_tyBall.f isB
  by_cases h1 : a = 111
  · rw [if_pos h1, decide_eq_true (Or.inl h1)]
  · rw [if_neg h1]
    by_cases h2 : a ≥ 97
    · rw [if_pos h2]
      congr 1
      exact decide_eq_decide.2 (by omega)
    · rw [if_neg h2, decide_eq_false (by omega)]
theorem isBall_eq (a : Int) : impl_isBall.f a = some (isB a) := by
  unfold impl_isBall.f impl_isName.f isB
  by_cases h1 : a = 111
  · rw [if_pos h1, decide_eq_true (Or.inl h1)]
  · rw [if_neg h1]
    by_cases h2 : a ≥ 97
    · rw [if_pos h2, Option.bind_some]
      congr 1
      exact decide_eq_decide.2 (by omega)
    · rw [if_neg h2, Option.bind_some, decide_eq_false (by omega)]
def bI (cs : List Int) (i : Int) : Bool := isB (rd cs i)
theorem rd_set (L : List Int) (a j v : Int) (ha : 0 ≤ a) (hl : a < L.length) (hj : 0 ≤ j) : rd (L.set a.toNat v) j = if j = a then v else rd L j := by
  unfold rd
  rw [List.getD_eq_getElem?_getD, List.getElem?_set, List.getD_eq_getElem?_getD]
  by_cases h : j = a
  · subst h
    rw [if_pos rfl, if_pos rfl, if_pos (by omega)]
    rfl
  · rw [if_neg h, if_neg (by omega)]
theorem rd_nat (L : List Int) (t : Nat) (h : t < L.length) : rd L (t : Int) = L[t] := by
  unfold rd
  rw [Int.toNat_natCast, List.getD_eq_getElem?_getD, List.getElem?_eq_getElem h]
  rfl
theorem nodup_len : ∀ (n : Nat) (q : List Int), q.Nodup → (∀ j ∈ q, 0 ≤ j ∧ j < n) → q.length ≤ n
  | 0, q, _, h => by
    rcases q with _ | ⟨a, q⟩
    · simp
    · have := h a List.mem_cons_self
      omega
  | n + 1, q, hq, h => by
    by_cases hm : (n : Int) ∈ q
    · have h1 := nodup_len n (q.erase n) (hq.erase _) (fun j hj => by
        have h2 := (hq.mem_erase_iff).1 hj
        have h3 := h j h2.2
        omega)
      rw [List.length_erase_of_mem hm] at h1
      omega
    · have h1 := nodup_len n q hq (fun j hj => by
        have h3 := h j hj
        have : j ≠ n := fun e => hm (e ▸ hj)
        omega)
      omega
/-- Ball j is joined with ball i. -/
inductive Rch (w h : Nat) (cs : List Int) : Int → Int → Prop
  | refl (i : Int) (h0 : 0 ≤ i) (h1 : i < ((w * h : Nat) : Int)) (hb : bI cs i = true) : Rch w h cs i i
  | step (i u v : Int) (hu : Rch w h cs i u) (hv : v ∈ nbs w h u.toNat) (hb : bI cs v = true) : Rch w h cs i v
def isMin (w h : Nat) (cs : List Int) (i : Nat) : Prop := bI cs i = true ∧ ∀ j : Nat, j < i → ¬ Rch w h cs j i
noncomputable def mins (w h : Nat) (cs : List Int) (i : Nat) : List Nat := (List.range i).filter (fun j => decide (isMin w h cs j))
noncomputable def comp (w h : Nat) (cs : List Int) (t : Nat) (i : Int) : List Int := ((List.range t).filter (fun j : Nat => decide (Rch w h cs i (j : Int)))).map (fun j : Nat => (j : Int))
theorem mins_succ (w h : Nat) (cs : List Int) (i : Nat) : mins w h cs (i + 1) = mins w h cs i ++ if isMin w h cs i then [i] else [] := by
  unfold mins
  rw [List.range_succ, List.filter_append]
  congr 1
  by_cases hm : isMin w h cs i
  · rw [if_pos hm]; simp [hm]
  · rw [if_neg hm]; simp [hm]
theorem mins_len (w h : Nat) (cs : List Int) (i : Nat) : (mins w h cs i).length ≤ i := by
  have := List.length_filter_le (fun j => decide (isMin w h cs j)) (List.range i)
  rw [List.length_range] at this
  exact this
theorem comp_succ (w h : Nat) (cs : List Int) (t : Nat) (i : Int) : comp w h cs (t + 1) i = comp w h cs t i ++ if Rch w h cs i t then [(t : Int)] else [] := by
  unfold comp
  rw [List.range_succ, List.filter_append, List.map_append]
  congr 1
  by_cases hm : Rch w h cs i t
  · rw [if_pos hm]; simp [hm]
  · rw [if_neg hm]; simp [hm]
theorem comp_len (w h : Nat) (cs : List Int) (t : Nat) (i : Int) : (comp w h cs t i).length ≤ t := by
  unfold comp
  rw [List.length_map]
  have := List.length_filter_le (fun j : Nat => decide (Rch w h cs i (j : Int))) (List.range t)
  rw [List.length_range] at this
  exact this
section
variable {w h : Nat} {cs : List Int} (hw : w ≤ 7) (hh : h ≤ 7) (hs : w * h ≤ 36)
include hw hh hs
theorem Rch.at {i j : Int} (hr : Rch w h cs i j) : 0 ≤ j ∧ j < ((w * h : Nat) : Int) ∧ bI cs j = true := by
  induction hr with
  | refl h0 h1 hb => exact ⟨h0, h1, hb⟩
  | step u v hu hv hb ih =>
    have h2 := nbs_at hw hh hs (i := u.toNat) (by omega) hv
    exact ⟨h2.1, h2.2.1, hb⟩
theorem Rch.src {i j : Int} (hr : Rch w h cs i j) : 0 ≤ i ∧ i < ((w * h : Nat) : Int) ∧ bI cs i = true := by
  induction hr with
  | refl h0 h1 hb => exact ⟨h0, h1, hb⟩
  | step u v hu hv hb ih => exact ih
theorem Rch.trans {i j k : Int} (h1 : Rch w h cs i j) (h2 : Rch w h cs j k) : Rch w h cs i k := by
  induction h2 with
  | refl => exact h1
  | step u v hu hv hb ih => exact Rch.step i u v ih hv hb
theorem Rch.symm {i j : Int} (hr : Rch w h cs i j) : Rch w h cs j i := by
  induction hr with
  | refl h0 h1 hb => exact Rch.refl i h0 h1 hb
  | step u v hu hv hb ih =>
    have h1 := Rch.at hw hh hs hu
    have h2 := nbs_at hw hh hs (i := u.toNat) (by omega) hv
    have h3 : Rch w h cs v u := by
      refine Rch.step v v u (Rch.refl v h2.1 h2.2.1 hb) ?_ h1.2.2
      have h4 := h2.2.2
      rwa [show ((u.toNat : Nat) : Int) = u by omega] at h4
    exact Rch.trans hw hh hs h3 ih

/-- The stated walk from one ball: what is marked, with what. -/
structure BI (w h : Nat) (cs L0 L q : List Int) (src c : Int) : Prop where
  len : L.length = w * h
  lab : ∀ j : Int, 0 ≤ j → j < ((w * h : Nat) : Int) → rd L j = if j ∈ q then c else rd L0 j
  mem : ∀ j ∈ q, Rch w h cs src j
  nodup : q.Nodup
  src : src ∈ q
theorem BI.qlen {L0 L q : List Int} {src c : Int} (hb : BI w h cs L0 L q src c) : q.length ≤ w * h :=
  nodup_len _ q hb.nodup fun j hj => by
    have := Rch.at hw hh hs (hb.mem j hj)
    exact ⟨this.1, this.2.1⟩
theorem BI.push {L0 L q : List Int} {src c u v : Int} (hb : BI w h cs L0 L q src c) (hc : 0 ≤ c) (hu : u ∈ q) (hv : v ∈ nbs w h u.toNat) (hbv : bI cs v = true) (hn : rd L v < 0) : BI w h cs L0 (L.set v.toNat c) (q ++ [v]) src c := by
  have h1 := Rch.at hw hh hs (hb.mem u hu)
  have h2 := nbs_at hw hh hs (i := u.toNat) (by omega) hv
  have h3 : v ∉ q := fun h4 => by
    have h5 := hb.lab v h2.1 h2.2.1
    rw [if_pos h4] at h5
    omega
  refine ⟨by rw [List.length_set]; exact hb.len, fun j h4 h5 => ?_, fun j hj => ?_, ?_, List.mem_append_left _ hb.src⟩
  · rw [rd_set L v j c h2.1 (by rw [hb.len]; exact h2.2.1) h4]
    by_cases h6 : j = v
    · rw [if_pos h6, if_pos (by rw [h6]; simp)]
    · rw [if_neg h6, hb.lab j h4 h5, ite_iff (show j ∈ q ++ [v] ↔ j ∈ q by simp [h6])]
  · rcases List.mem_append.1 hj with h6 | h6
    · exact hb.mem j h6
    · rw [List.mem_singleton.1 h6]
      exact Rch.step _ u v (hb.mem u hu) hv hbv
  · rw [List.nodup_append]
    exact ⟨hb.nodup, by simp, fun a ha b hb2 e => h3 (by rw [← List.mem_singleton.1 hb2, ← e]; exact ha)⟩
theorem sk_l3 (hn : cs.length = w * h) (L0 : List Int) (src c x29 : Int) (hc : 0 ≤ c) (p : Nat) (u : Int) (N : List Int) (hN : N = nbs w h u.toNat) (hN4 : N.length ≤ 4) (hu36 : p ≤ 36) : ∀ (m t : Nat) (L q : List Int), t + m = N.length → BI w h cs L0 L q src c → u ∈ q →
    (∀ v ∈ N.take t, bI cs v = true → 0 ≤ rd L v) →
    ∃ L' q', BI w h cs L0 L' q' src c ∧ q <+: q' ∧ (∀ v ∈ N, bI cs v = true → 0 ≤ rd L' v) ∧ (∀ j : Int, 0 ≤ j → j < ((w * h : Nat) : Int) → 0 ≤ rd L j → 0 ≤ rd L' j) ∧
      ∀ K, Ev (fun k => spec_skPieces.l2 k L' c q' ((p + 1 : Nat) : Int) cs cs.length x29 w h cs) K → Ev (fun k => spec_skPieces.l3 k L c q p cs cs.length x29 N N.length t w h cs) K
  | 0, t, L, q, ht, hb, hu, hcl => by
    refine ⟨L, q, hb, List.prefix_rfl, ?_, fun _ _ _ h => h, fun K hK => Ev.step hK fun k => ?_⟩
    · rwa [List.take_of_length_le (by omega)] at hcl
    · rw [spec_skPieces.l3, if_neg (by omega), show wrap64 ((p : Int) + 1) = ((p + 1 : Nat) : Int) by rw [w64 (by omega) (by omega)]; omega]
  | m + 1, t, L, q, ht, hb, hu, hcl => by
    have hlt : t < N.length := by omega
    have c1 : (t : Int) < (N.length : Int) := by omega
    have c0 : (0 : Int) ≤ (t : Int) := by omega
    have hru := Rch.at hw hh hs (hb.mem u hu)
    have hwt : wrap64 ((t : Int) + 1) = ((t + 1 : Nat) : Int) := by rw [w64 (by omega) (by omega)]; omega
    have htk : N.take (t + 1) = N.take t ++ [N[t]] := List.take_succ_eq_append_getElem hlt
    have hrd := rd_nat _ t hlt
    have hv : N[t] ∈ N := List.getElem_mem hlt
    generalize N[t] = v at htk hrd hv
    have hvr := nbs_at hw hh hs (i := u.toNat) (by omega) (hN ▸ hv)
    have hql := BI.qlen hw hh hs hb
    have c3 : 0 ≤ v := hvr.1
    have c4 : v < (cs.length : Int) := by rw [hn]; exact hvr.2.1
    have c5 : v < (L.length : Int) := by rw [hb.len]; exact hvr.2.1
    have c6 : q.length < 17592186044416 := Nat.lt_of_le_of_lt (Nat.le_trans hql hs) (by decide)
    have hgo : ∀ K, Ev (fun k => if bI cs v = true then (if rd L v < 0 then spec_skPieces.l3 k (L.set v.toNat c) c (q ++ [v]) p cs cs.length x29 N N.length ((t + 1 : Nat) : Int) w h cs else spec_skPieces.l3 k L c q p cs cs.length x29 N N.length ((t + 1 : Nat) : Int) w h cs) else spec_skPieces.l3 k L c q p cs cs.length x29 N N.length ((t + 1 : Nat) : Int) w h cs) K →
        Ev (fun k => spec_skPieces.l3 k L c q p cs cs.length x29 N N.length t w h cs) K := fun K hK => by
      refine Ev.step hK fun k => ?_
      rw [spec_skPieces.l3, if_pos c1, if_pos c0, if_pos c1, hrd, if_pos c3, if_pos c4, tyBall_eq, Option.bind_some, hwt]
      show (if bI cs v = true then _ else _) = _
      by_cases h1 : bI cs v = true
      · rw [if_pos h1, if_pos h1, if_pos c5]
        by_cases h2 : rd L v < 0
        · rw [if_pos h2, if_pos h2, if_pos c6]
        · rw [if_neg h2, if_neg h2]
      · rw [if_neg h1, if_neg h1]
    by_cases h1 : bI cs v = true
    · by_cases h2 : rd L v < 0
      · have hp := BI.push hw hh hs hb hc hu (hN ▸ hv) h1 h2
        have hgrow : ∀ j : Int, 0 ≤ j → j < ((w * h : Nat) : Int) → 0 ≤ rd L j → 0 ≤ rd (L.set v.toNat c) j := fun j h3 h4 h5 => by
          rw [rd_set L v j c hvr.1 (by rw [hb.len]; omega) h3]
          split
          · exact hc
          · exact h5
        obtain ⟨L', q', e1, e2, e3, e4, e5⟩ := sk_l3 hn L0 src c x29 hc p u N hN hN4 hu36 m (t + 1) _ _ (by omega) hp (List.mem_append_left _ hu) (fun x hx hbx => by
          rw [htk] at hx
          rcases List.mem_append.1 hx with h3 | h3
          · have h4 := nbs_at hw hh hs (i := u.toNat) (by omega) (hN ▸ List.take_subset _ _ h3)
            exact hgrow x h4.1 h4.2.1 (hcl x h3 hbx)
          · rw [List.mem_singleton.1 h3, rd_set L v v c hvr.1 (by rw [hb.len]; omega) hvr.1, if_pos rfl]
            exact hc)
        refine ⟨L', q', e1, (List.prefix_append q [v]).trans e2, e3, fun j h3 h4 h5 => e4 j h3 h4 (hgrow j h3 h4 h5), fun K hK => hgo K ?_⟩
        refine Ev.congr (e5 K hK) fun k => ?_
        rw [if_pos h1, if_pos h2]
      · obtain ⟨L', q', e1, e2, e3, e4, e5⟩ := sk_l3 hn L0 src c x29 hc p u N hN hN4 hu36 m (t + 1) L q (by omega) hb hu (fun x hx hbx => by
          rw [htk] at hx
          rcases List.mem_append.1 hx with h3 | h3
          · exact hcl x h3 hbx
          · rw [List.mem_singleton.1 h3]
            omega)
        refine ⟨L', q', e1, e2, e3, e4, fun K hK => hgo K ?_⟩
        refine Ev.congr (e5 K hK) fun k => ?_
        rw [if_pos h1, if_neg h2]
    · obtain ⟨L', q', e1, e2, e3, e4, e5⟩ := sk_l3 hn L0 src c x29 hc p u N hN hN4 hu36 m (t + 1) L q (by omega) hb hu (fun x hx hbx => by
          rw [htk] at hx
          rcases List.mem_append.1 hx with h3 | h3
          · exact hcl x h3 hbx
          · rw [List.mem_singleton.1 h3] at hbx
            exact absurd hbx h1)
      refine ⟨L', q', e1, e2, e3, e4, fun K hK => hgo K ?_⟩
      refine Ev.congr (e5 K hK) fun k => ?_
      rw [if_neg h1]
theorem sk_l2 (hn : cs.length = w * h) (L0 : List Int) (src c x29 : Int) (hc : 0 ≤ c) : ∀ (m p : Nat) (L q : List Int), p + m = w * h + 1 → p ≤ q.length → BI w h cs L0 L q src c →
    (∀ u ∈ q.take p, ∀ v ∈ nbs w h u.toNat, bI cs v = true → 0 ≤ rd L v) →
    ∃ L' q', BI w h cs L0 L' q' src c ∧ (∀ u ∈ q', ∀ v ∈ nbs w h u.toNat, bI cs v = true → 0 ≤ rd L' v) ∧
      ∀ K, Ev (fun k => spec_skPieces.l1 k L' (wrap64 (c + 1)) cs cs.length (wrap64 (x29 + 1)) w h cs) K → Ev (fun k => spec_skPieces.l2 k L c q p cs cs.length x29 w h cs) K
  | 0, p, L, q, hp, hpq, hb, hcl => by
    have := BI.qlen hw hh hs hb
    omega
  | m + 1, p, L, q, hp, hpq, hb, hcl => by
    have hql := BI.qlen hw hh hs hb
    by_cases hlt : p < q.length
    · have hrd := rd_nat q p hlt
      have hu : q[p] ∈ q := List.getElem_mem hlt
      have hur := Rch.at hw hh hs (hb.mem _ hu)
      obtain ⟨L1, q1, e1, e2, e3, e4, e5⟩ := sk_l3 hw hh hs hn L0 src c x29 hc p q[p] _ rfl (nbs_len hw hh hs (by omega)) (by omega) (nbs w h q[p].toNat).length 0 L q (Nat.zero_add _) hb hu (fun v hv => by simp at hv)
      obtain ⟨z, hz⟩ := e2
      have hle : q.length ≤ q1.length := by rw [← hz, List.length_append]; omega
      have htk : q1.take (p + 1) = q.take p ++ [q[p]] := by
        rw [← hz, List.take_append_of_le_length (by omega)]
        exact List.take_succ_eq_append_getElem hlt
      obtain ⟨L2, q2, f1, f2, f3⟩ := sk_l2 hn L0 src c x29 hc m (p + 1) L1 q1 (by omega) (by omega) e1 (fun u hu2 v hv hbv => by
        rw [htk] at hu2
        rcases List.mem_append.1 hu2 with h3 | h3
        · have h4 := Rch.at hw hh hs (hb.mem u (List.take_subset _ _ h3))
          have h5 := nbs_at hw hh hs (i := u.toNat) (by omega) hv
          exact e4 v h5.1 h5.2.1 (hcl u h3 v hv hbv)
        · rw [List.mem_singleton.1 h3] at hv
          exact e3 v hv hbv)
      refine ⟨L2, q2, f1, f2, fun K hK => ?_⟩
      have hnear := near_ev hw hh hs (i := q[p].toNat) (by omega) cs
      rw [show ((q[p].toNat : Nat) : Int) = q[p] by omega] at hnear
      refine Ev.step (Ev.bind (f := fun k t => spec_skPieces.l3 k L c q p cs cs.length x29 t t.length 0 w h cs) hnear (e5 K (f3 K hK))) fun k => ?_
      rw [spec_skPieces.l2, if_pos (by omega), if_pos (by omega), hrd]
    · refine ⟨L, q, hb, ?_, fun K hK => Ev.step hK fun k => ?_⟩
      · rwa [List.take_of_length_le (by omega)] at hcl
      · rw [spec_skPieces.l2, if_neg (by omega)]
end
end
end Go.Proofs.YtbplbbialcbceaaDoor.Q
