/- The program's pieces: every part is what one ball reaches. -/
import Derived.Test.YtbplbbialcbceaaDoorPbfs
namespace Go.Proofs.YtbplbbialcbceaaDoor.Q
open Go.RowKit Go.Proofs.YtbplbbialcbceaaDoorW.PrintWords Go.Proofs.YtbplbbialcbceaaDoorW.PrintLast Go.Proofs.YtbplbbialcbceaaDoorW.PrintMore
set_option linter.unusedSectionVars false
open Classical
section
variable {w h : Nat} {cs : List Int} (hw : w ≤ 7) (hh : h ≤ 7) (hs : w * h ≤ 36)
include hw hh hs
structure DI (w h : Nat) (cs L q : List Int) (src : Int) : Prop where
  len : L.length = w * h
  inq : ∀ j : Int, 0 ≤ j → j < ((w * h : Nat) : Int) → j ∈ q → 0 ≤ rd L j ∧ rd L j < q.length
  out : ∀ j : Int, 0 ≤ j → j < ((w * h : Nat) : Int) → j ∉ q → rd L j = -1
  mem : ∀ j ∈ q, Rch w h cs src j
  nodup : q.Nodup
  src : src ∈ q
theorem DI.qlen {L q : List Int} {src : Int} (hb : DI w h cs L q src) : q.length ≤ w * h :=
  nodup_len _ q hb.nodup fun j hj => by
    have := Rch.at hw hh hs (hb.mem j hj)
    exact ⟨this.1, this.2.1⟩
theorem DI.push {L q : List Int} {src u v : Int} (hb : DI w h cs L q src) (hu : u ∈ q) (hv : v ∈ nbs w h u.toNat) (hbv : bI cs v = true) (hn : rd L v < 0) : DI w h cs (L.set v.toNat (wrap64 (rd L u + 1))) (q ++ [v]) src := by
  have h1 := Rch.at hw hh hs (hb.mem u hu)
  have h2 := nbs_at hw hh hs (i := u.toNat) (by omega) hv
  have hq := DI.qlen hw hh hs hb
  have hru := hb.inq u h1.1 h1.2.1 hu
  have hwr : wrap64 (rd L u + 1) = rd L u + 1 := w64 (by omega) (by omega)
  have h3 : v ∉ q := fun h4 => by
    have h5 := hb.inq v h2.1 h2.2.1 h4
    omega
  have hvl : v < (L.length : Int) := by rw [hb.len]; exact h2.2.1
  refine ⟨by rw [List.length_set]; exact hb.len, fun j h4 h5 h6 => ?_, fun j h4 h5 h6 => ?_, fun j hj => ?_, ?_, List.mem_append_left _ hb.src⟩
  · rw [rd_set L v j _ h2.1 hvl h4, List.length_append, List.length_singleton, hwr]
    by_cases h7 : j = v
    · rw [if_pos h7]
      omega
    · rw [if_neg h7]
      have h8 := hb.inq j h4 h5 (by simpa [h7] using h6)
      omega
  · have h7 : j ≠ v := fun e => h6 (by rw [e]; simp)
    rw [rd_set L v j _ h2.1 hvl h4, if_neg h7]
    exact hb.out j h4 h5 (fun h8 => h6 (List.mem_append_left _ h8))
  · rcases List.mem_append.1 hj with h6 | h6
    · exact hb.mem j h6
    · rw [List.mem_singleton.1 h6]
      exact Rch.step _ u v (hb.mem u hu) hv hbv
  · rw [List.nodup_append]
    exact ⟨hb.nodup, by simp, fun a ha b hb2 e => h3 (by rw [← List.mem_singleton.1 hb2, ← e]; exact ha)⟩
theorem di_l1 (hn : cs.length = w * h) (src : Int) (p : Nat) (u : Int) (N : List Int) (hN : N = nbs w h u.toNat) (hN4 : N.length ≤ 4) (hp36 : p ≤ 36) : ∀ (m t : Nat) (L q : List Int), t + m = N.length → DI w h cs L q src → (hpq : p < q.length) → rd q p = u → u ∈ q →
    (∀ v ∈ N.take t, bI cs v = true → v ∈ q) →
    ∃ L' q', DI w h cs L' q' src ∧ q <+: q' ∧ (∀ v ∈ N, bI cs v = true → v ∈ q') ∧
      ∀ K, Ev (fun k => impl_tray_distances_isBall.l0 k L' q' ((p + 1 : Nat) : Int) w h cs) K → Ev (fun k => impl_tray_distances_isBall.l1 k L q p N N.length t w h cs) K
  | 0, t, L, q, ht, hb, hpq, hqu, hu, hcl => by
    refine ⟨L, q, hb, List.prefix_rfl, ?_, fun K hK => Ev.step hK fun k => ?_⟩
    · rwa [List.take_of_length_le (by omega)] at hcl
    · rw [impl_tray_distances_isBall.l1, if_neg (by omega), show wrap64 ((p : Int) + 1) = ((p + 1 : Nat) : Int) by rw [w64 (by omega) (by omega)]; omega]
  | m + 1, t, L, q, ht, hb, hpq, hqu, hu, hcl => by
    have hlt : t < N.length := by omega
    have c1 : (t : Int) < (N.length : Int) := by omega
    have c0 : (0 : Int) ≤ (t : Int) := by omega
    have c7 : (0 : Int) ≤ (p : Int) := by omega
    have c8 : (p : Int) < (q.length : Int) := by omega
    have hru := Rch.at hw hh hs (hb.mem u hu)
    have c9 : u < (L.length : Int) := by rw [hb.len]; exact hru.2.1
    have hwt : wrap64 ((t : Int) + 1) = ((t + 1 : Nat) : Int) := by rw [w64 (by omega) (by omega)]; omega
    have htk : N.take (t + 1) = N.take t ++ [N[t]] := List.take_succ_eq_append_getElem hlt
    have hrd := rd_nat _ t hlt
    have hv : N[t] ∈ N := List.getElem_mem hlt
    generalize N[t] = v at htk hrd hv
    have hvr := nbs_at hw hh hs (i := u.toNat) (by omega) (hN ▸ hv)
    have hql := DI.qlen hw hh hs hb
    have c3 : 0 ≤ v := hvr.1
    have c4 : v < (cs.length : Int) := by rw [hn]; exact hvr.2.1
    have c5 : v < (L.length : Int) := by rw [hb.len]; exact hvr.2.1
    have c6 : q.length < 17592186044416 := Nat.lt_of_le_of_lt (Nat.le_trans hql hs) (by decide)
    have hgo : ∀ K, Ev (fun k => if bI cs v = true then (if rd L v < 0 then impl_tray_distances_isBall.l1 k (L.set v.toNat (wrap64 (rd L u + 1))) (q ++ [v]) p N N.length ((t + 1 : Nat) : Int) w h cs else impl_tray_distances_isBall.l1 k L q p N N.length ((t + 1 : Nat) : Int) w h cs) else impl_tray_distances_isBall.l1 k L q p N N.length ((t + 1 : Nat) : Int) w h cs) K →
        Ev (fun k => impl_tray_distances_isBall.l1 k L q p N N.length t w h cs) K := fun K hK => by
      refine Ev.step hK fun k => ?_
      rw [impl_tray_distances_isBall.l1, if_pos c1, if_pos c0, if_pos c1, hrd, if_pos c3, if_pos c4, isBall_eq, Option.bind_some, hwt]
      show (if bI cs v = true then _ else _) = _
      by_cases h1 : bI cs v = true
      · rw [if_pos h1, if_pos h1, if_pos c5]
        by_cases h2 : rd L v < 0
        · rw [if_pos h2, if_pos h2, if_pos c7, if_pos c8, hqu, if_pos hru.1, if_pos c9, if_pos c6]
        · rw [if_neg h2, if_neg h2]
      · rw [if_neg h1, if_neg h1]
    by_cases h1 : bI cs v = true
    · by_cases h2 : rd L v < 0
      · have hp := DI.push hw hh hs hb hu (hN ▸ hv) h1 h2
        obtain ⟨L', q', e1, e2, e3, e5⟩ := di_l1 hn src p u N hN hN4 hp36 m (t + 1) _ _ (by omega) hp (by rw [List.length_append]; omega) (by
          rw [← hqu]
          unfold rd
          rw [Int.toNat_natCast, List.getD_eq_getElem?_getD, List.getElem?_append_left hpq, List.getD_eq_getElem?_getD]) (List.mem_append_left _ hu) (fun x hx hbx => by
          rw [htk] at hx
          rcases List.mem_append.1 hx with h3 | h3
          · exact List.mem_append_left _ (hcl x h3 hbx)
          · exact List.mem_append_right _ h3)
        refine ⟨L', q', e1, (List.prefix_append q [v]).trans e2, e3, fun K hK => hgo K ?_⟩
        refine Ev.congr (e5 K hK) fun k => ?_
        rw [if_pos h1, if_pos h2]
      · obtain ⟨L', q', e1, e2, e3, e5⟩ := di_l1 hn src p u N hN hN4 hp36 m (t + 1) L q (by omega) hb hpq hqu hu (fun x hx hbx => by
          rw [htk] at hx
          rcases List.mem_append.1 hx with h3 | h3
          · exact hcl x h3 hbx
          · rw [List.mem_singleton.1 h3]
            apply Classical.byContradiction
            intro h4
            have h5 := hb.out v hvr.1 hvr.2.1 h4
            omega)
        refine ⟨L', q', e1, e2, e3, fun K hK => hgo K ?_⟩
        refine Ev.congr (e5 K hK) fun k => ?_
        rw [if_pos h1, if_neg h2]
    · obtain ⟨L', q', e1, e2, e3, e5⟩ := di_l1 hn src p u N hN hN4 hp36 m (t + 1) L q (by omega) hb hpq hqu hu (fun x hx hbx => by
          rw [htk] at hx
          rcases List.mem_append.1 hx with h3 | h3
          · exact hcl x h3 hbx
          · rw [List.mem_singleton.1 h3] at hbx
            exact absurd hbx h1)
      refine ⟨L', q', e1, e2, e3, fun K hK => hgo K ?_⟩
      refine Ev.congr (e5 K hK) fun k => ?_
      rw [if_neg h1]
theorem di_l0 (hn : cs.length = w * h) (src : Int) : ∀ (m p : Nat) (L q : List Int), p + m = w * h + 1 → p ≤ q.length → DI w h cs L q src →
    (∀ u ∈ q.take p, ∀ v ∈ nbs w h u.toNat, bI cs v = true → v ∈ q) →
    ∃ L' q', DI w h cs L' q' src ∧ (∀ u ∈ q', ∀ v ∈ nbs w h u.toNat, bI cs v = true → v ∈ q') ∧ Ev (fun k => impl_tray_distances_isBall.l0 k L q p w h cs) L'
  | 0, p, L, q, hp, hpq, hb, hcl => by
    have := DI.qlen hw hh hs hb
    omega
  | m + 1, p, L, q, hp, hpq, hb, hcl => by
    have hql := DI.qlen hw hh hs hb
    by_cases hlt : p < q.length
    · have hrd := rd_nat q p hlt
      have hu : q[p] ∈ q := List.getElem_mem hlt
      have hur := Rch.at hw hh hs (hb.mem _ hu)
      obtain ⟨L1, q1, e1, e2, e3, e5⟩ := di_l1 hw hh hs hn src p q[p] _ rfl (nbs_len hw hh hs (by omega)) (by omega) (nbs w h q[p].toNat).length 0 L q (Nat.zero_add _) hb hlt hrd hu (fun v hv => by simp at hv)
      obtain ⟨z, hz⟩ := e2
      have hle : q.length ≤ q1.length := by rw [← hz, List.length_append]; omega
      have htk : q1.take (p + 1) = q.take p ++ [q[p]] := by
        rw [← hz, List.take_append_of_le_length (by omega)]
        exact List.take_succ_eq_append_getElem hlt
      obtain ⟨L2, q2, f1, f2, f3⟩ := di_l0 hn src m (p + 1) L1 q1 (by omega) (by omega) e1 (fun u hu2 v hv hbv => by
        rw [htk] at hu2
        rcases List.mem_append.1 hu2 with h3 | h3
        · rw [← hz]
          exact List.mem_append_left _ (hcl u h3 v hv hbv)
        · rw [List.mem_singleton.1 h3] at hv
          exact e3 v hv hbv)
      refine ⟨L2, q2, f1, f2, ?_⟩
      have hnear := beside_ev hw hh hs (i := q[p].toNat) (by omega) cs
      rw [show ((q[p].toNat : Nat) : Int) = q[p] by omega] at hnear
      refine Ev.step (Ev.bind (f := fun k t => impl_tray_distances_isBall.l1 k L q p t t.length 0 w h cs) hnear (e5 _ f3)) fun k => ?_
      rw [impl_tray_distances_isBall.l0, if_pos (by omega), if_pos (by omega), hrd]
    · refine ⟨L, q, hb, ?_, Ev.step (Ev.const (o := some L) rfl) fun k => ?_⟩
      · rwa [List.take_of_length_le (by omega)] at hcl
      · rw [impl_tray_distances_isBall.l0, if_neg (by omega)]
theorem rd_rep2 (n : Nat) (x j : Int) (h0 : 0 ≤ j) (h1 : j < (n : Int)) : rd (List.replicate n x) j = x := by
  unfold rd
  rw [List.getD_eq_getElem?_getD, List.getElem?_replicate, if_pos (by omega)]
  rfl
theorem dist_ev (hn : cs.length = w * h) (i : Nat) (hi : i < w * h) : ∃ L : List Int, L.length = w * h ∧ (∀ j : Int, 0 ≤ j → j < ((w * h : Nat) : Int) → (0 ≤ rd L j ↔ Rch w h cs i j)) ∧ Ev (fun k => impl_tray_distances_isBall.f k w h cs i ()) L := by
  have hrep : slices_Repeat_int.f ([(-1)] : List Int) (cs.length : Int) = some (List.replicate (w * h) (-1)) := by
    unfold slices_Repeat_int.f
    rw [if_pos ⟨rfl, by omega, by omega⟩, hn, Int.toNat_natCast]
    rfl
  have c0 : (0 : Int) ≤ (i : Int) := by omega
  have c1 : (i : Int) < (cs.length : Int) := by omega
  have c2 : (i : Int) < ((List.replicate (w * h) (-1 : Int)).length : Int) := by rw [List.length_replicate]; omega
  by_cases hb : bI cs i = true
  · have hd : DI w h cs ((List.replicate (w * h) (-1)).set ((i : Nat) : Int).toNat 0) [(i : Int)] i := by
      refine ⟨by simp, fun j h0 h1 h2 => ?_, fun j h0 h1 h2 => ?_, fun j hj => ?_, by simp, by simp⟩
      · rw [rd_set _ i j 0 c0 c2 h0, if_pos (by simpa using h2)]
        simp
      · rw [rd_set _ i j 0 c0 c2 h0, if_neg (by simpa using h2)]
        exact rd_rep2 hw hh hs _ _ j h0 h1
      · rw [List.mem_singleton.1 hj]
        exact Rch.refl _ (by omega) (by omega) hb
    obtain ⟨L, q, e1, e2, e3⟩ := di_l0 hw hh hs hn i (w * h + 1) 0 _ _ (by omega) (Nat.zero_le _) hd (fun u hu => by simp at hu)
    have hq : ∀ j : Int, Rch w h cs i j → j ∈ q := by
      intro j hj
      induction hj with
      | refl => exact e1.src
      | step u v hu hv hbv ih => exact e2 u ih v hv hbv
    refine ⟨L, e1.len, fun j h0 h1 => ⟨fun h2 => ?_, fun h2 => (e1.inq j h0 h1 (hq j h2)).1⟩, Ev.congr e3 fun k => ?_⟩
    · apply e1.mem j
      apply Classical.byContradiction
      intro h3
      have := e1.out j h0 h1 h3
      omega
    · unfold impl_tray_distances_isBall.f
      rw [hrep, Option.bind_some, if_pos c0, if_pos c1, isBall_eq, Option.bind_some]
      show (if bI cs i = true then _ else _) = _
      rw [if_pos hb, if_pos c2]
      rfl
  · refine ⟨List.replicate (w * h) (-1), by simp, fun j h0 h1 => ⟨fun h2 => ?_, fun h2 => absurd (Rch.src hw hh hs h2).2.2 hb⟩, Ev.congr (Ev.const (o := some (List.replicate (w * h) (-1))) rfl) fun k => ?_⟩
    · rw [rd_rep2 hw hh hs _ _ j h0 h1] at h2
      omega
    · unfold impl_tray_distances_isBall.f
      rw [hrep, Option.bind_some, if_pos c0, if_pos c1, isBall_eq, Option.bind_some]
      show (if bI cs i = true then _ else _) = _
      rw [if_neg hb]
theorem comp_head (i : Nat) (hi : i < w * h) : (0 < (comp w h cs (w * h) i).length ∧ rd (comp w h cs (w * h) i) 0 = i) ↔ isMin w h cs i := by
  have hr : List.range (w * h) = List.range i ++ (List.range' i (w * h - i)) := by
    have h1 := List.range'_append_1 (s := 0) (m := i) (n := w * h - i)
    rw [Nat.zero_add, show i + (w * h - i) = w * h by omega] at h1
    rw [List.range_eq_range', List.range_eq_range', h1]
  have hr2 : List.range' i (w * h - i) = i :: List.range' (i + 1) (w * h - i - 1) := by
    rw [show w * h - i = (w * h - i - 1) + 1 by omega, List.range'_succ]
    rfl
  unfold comp
  rw [hr, hr2, List.filter_append, List.map_append]
  constructor
  · intro ⟨h1, h2⟩
    rcases e : (List.range i).filter (fun j : Nat => decide (Rch w h cs i (j : Int))) with _ | ⟨a, l⟩
    · rw [e] at h1 h2
      refine ⟨?_, fun j hj hrj => ?_⟩
      · by_cases h3 : Rch w h cs i (i : Int)
        · exact (Rch.src hw hh hs h3).2.2
        · exfalso
          rw [List.filter_cons, if_neg (by simp [h3]), List.map_nil, List.nil_append] at h1 h2
          rcases e2 : (List.range' (i + 1) (w * h - i - 1)).filter (fun j : Nat => decide (Rch w h cs i (j : Int))) with _ | ⟨a, l⟩
          · rw [e2] at h1
            simp at h1
          · rw [e2] at h2
            have hb := (Rch.src hw hh hs (of_decide_eq_true (List.mem_filter.1 (e2 ▸ List.mem_cons_self : a ∈ _)).2)).2.2
            exact h3 (Rch.refl _ (by omega) (by omega) hb)
      · have hs2 := Rch.symm hw hh hs hrj
        have hm : j ∈ (List.range i).filter (fun j : Nat => decide (Rch w h cs i (j : Int))) := List.mem_filter.2 ⟨List.mem_range.2 hj, decide_eq_true hs2⟩
        rw [e] at hm
        simp at hm
    · exfalso
      rw [e] at h2
      have hm : a ∈ (List.range i).filter (fun j : Nat => decide (Rch w h cs i (j : Int))) := e ▸ List.mem_cons_self
      have ha := List.mem_range.1 (List.mem_filter.1 hm).1
      simp [rd] at h2
      omega
  · intro hm
    have e : (List.range i).filter (fun j : Nat => decide (Rch w h cs i (j : Int))) = [] := by
      rw [List.filter_eq_nil_iff]
      intro j hj h1
      exact hm.2 j (List.mem_range.1 hj) (Rch.symm hw hh hs (of_decide_eq_true h1))
    have h3 : Rch w h cs i (i : Int) := Rch.refl _ (by omega) (by omega) hm.1
    rw [e, List.map_nil, List.nil_append, List.filter_cons, if_pos (by simpa using h3), List.map_cons]
    exact ⟨by simp, by simp [rd]⟩
theorem pa_l1 (i : Nat) (D : List Int) (hD : D.length = w * h) (hR : ∀ j : Int, 0 ≤ j → j < ((w * h : Nat) : Int) → (0 ≤ rd D j ↔ Rch w h cs i j)) (x5 : List (List Int)) (K : List (List Int))
    (hK : Ev (fun k => if 0 < ((comp w h cs (w * h) i).length : Int) ∧ rd (comp w h cs (w * h) i) 0 = i then (if x5.length < 5864062014805 then impl_tray_parts_isBall.l0 k () (x5 ++ [comp w h cs (w * h) i]) cs.length (wrap64 ((i : Int) + 1)) w h cs else none) else impl_tray_parts_isBall.l0 k () x5 cs.length (wrap64 ((i : Int) + 1)) w h cs) K) :
    ∀ (m t : Nat), t + m = w * h → Ev (fun k => impl_tray_parts_isBall.l1 k () x5 i (comp w h cs t i) cs.length i D D.length t w h cs) K
  | 0, t, ht => by
    obtain rfl : t = w * h := by omega
    refine Ev.step hK fun k => ?_
    rw [impl_tray_parts_isBall.l1, if_neg (by omega)]
    by_cases h1 : ((comp w h cs (w * h) i).length : Int) > 0
    · rw [if_pos h1, if_pos h1]
      by_cases h2 : rd (comp w h cs (w * h) i) 0 = i
      · rw [if_pos h2]
        exact (if_pos ⟨h1, h2⟩).symm
      · rw [if_neg h2]
        exact (if_neg fun h3 => h2 h3.2).symm
    · rw [if_neg h1]
      exact (if_neg fun h3 => h1 h3.1).symm
  | m + 1, t, ht => by
    have ih := pa_l1 i D hD hR x5 K hK m (t + 1) (by omega)
    have hwt : wrap64 ((t : Int) + 1) = ((t + 1 : Nat) : Int) := by rw [w64 (by omega) (by omega)]; omega
    have hcl := comp_len w h cs t i
    have c6 : (comp w h cs t i).length < 17592186044416 := Nat.lt_of_le_of_lt (Nat.le_trans hcl (show t ≤ 36 by omega)) (by decide)
    have c1 : (t : Int) < (D.length : Int) := by omega
    have c0 : (0 : Int) ≤ (t : Int) := by omega
    have hrt := hR t c0 (by omega)
    rw [comp_succ] at ih
    refine Ev.step ih fun k => ?_
    rw [impl_tray_parts_isBall.l1, if_pos c1, if_pos c0, if_pos c1, hwt]
    by_cases h1 : Rch w h cs i (t : Int)
    · rw [if_pos (hrt.2 h1), if_pos c6, if_pos h1]
    · rw [if_neg (fun h2 => h1 (hrt.1 h2)), if_neg h1, List.append_nil]
noncomputable def parts (w h : Nat) (cs : List Int) (i : Nat) : List (List Int) := (mins w h cs i).map fun m : Nat => comp w h cs (w * h) m
theorem pa_l0 (hn : cs.length = w * h) : ∀ (m i : Nat), i + m = w * h → Ev (fun k => impl_tray_parts_isBall.l0 k () (parts w h cs i) cs.length i w h cs) (parts w h cs (w * h))
  | 0, i, hi => by
    obtain rfl : i = w * h := by omega
    refine Ev.step (Ev.const (o := some (parts w h cs (w * h))) rfl) fun k => ?_
    rw [impl_tray_parts_isBall.l0, if_neg (by omega)]
  | m + 1, i, hi => by
    have ih := pa_l0 hn m (i + 1) (by omega)
    have hlt : i < w * h := by omega
    obtain ⟨D, hD, hR, hE⟩ := dist_ev hw hh hs hn i hlt
    have hwi : wrap64 ((i : Int) + 1) = ((i + 1 : Nat) : Int) := by rw [w64 (by omega) (by omega)]; omega
    have hml := mins_len w h cs i
    have hpl : (parts w h cs i).length < 5864062014805 := by
      unfold parts
      rw [List.length_map]
      exact Nat.lt_of_le_of_lt (Nat.le_trans hml (show i ≤ 36 by omega)) (by decide)
    have hd := comp_head hw hh hs (cs := cs) i hlt
    have hps : parts w h cs (i + 1) = if isMin w h cs i then parts w h cs i ++ [comp w h cs (w * h) i] else parts w h cs i := by
      unfold parts
      rw [mins_succ, List.map_append]
      by_cases hm : isMin w h cs i
      · rw [if_pos hm, if_pos hm]
        rfl
      · rw [if_neg hm, if_neg hm, List.map_nil, List.append_nil]
    have h1 := pa_l1 hw hh hs i D hD hR (parts w h cs i) _ (by
      refine Ev.congr ih fun k => ?_
      rw [hwi, hps]
      by_cases hm : isMin w h cs i
      · have h2 := hd.2 hm
        rw [if_pos ⟨by omega, h2.2⟩, if_pos hpl, if_pos hm]
      · rw [if_neg (fun h2 => hm (hd.1 ⟨by omega, h2.2⟩)), if_neg hm]) (w * h) 0 (by omega)
    refine Ev.step (Ev.bind (f := fun k t => impl_tray_parts_isBall.l1 k () (parts w h cs i) i ([] : List Int) cs.length i t t.length 0 w h cs) hE ?_) fun k => ?_
    · exact h1
    · rw [impl_tray_parts_isBall.l0, if_pos (by omega)]
theorem parts_ev (hn : cs.length = w * h) : Ev (fun k => impl_tray_pieces.f k w h cs) (parts w h cs (w * h)) := by
  refine Ev.bind (f := fun _ t => some t) ?_ (Ev.const rfl)
  exact pa_l0 hw hh hs hn (w * h) 0 (by omega)
end
end Go.Proofs.YtbplbbialcbceaaDoor.Q
