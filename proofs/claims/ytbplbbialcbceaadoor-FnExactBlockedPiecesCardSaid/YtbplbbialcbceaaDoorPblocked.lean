/- The blocked pieces: the stated loop and the program's rounds both find the least set. -/
import Derived.Test.YtbplbbialcbceaaDoorPblk
import Derived.Test.YtbplbbialcbceaaDoorPahead
import Derived.Test.YtbplbbialcbceaaDoorQw
import Derived.Test.YtbplbbialcbceaaDoorXblocked
namespace Go.Proofs.YtbplbbialcbceaaDoor.Q
open Go.RowKit Go.Proofs.YtbplbbialcbceaaDoorW.PrintWords Go.Proofs.YtbplbbialcbceaaDoorW.PrintLast Go.Proofs.YtbplbbialcbceaaDoorW.PrintMore
set_option linter.unusedSectionVars false
open Classical
/-- The cell ahead that is no wall, -1 for none. -/
def aA (w h : Nat) (cs : List Int) (d : Nat) (i : Nat) : Int := if ah w h i d < 0 then -1 else if rd cs (ah w h i d) = 35 then -1 else ah w h i d
def lb (L : List Int) (i : Nat) : Int := rd L (i : Int)
/-- Some cell of a scan marks its piece. -/
def anyF (lab nx : Nat → Int) : List Bool → List Nat → Bool
  | _, [] => false
  | out, i :: l => fire lab nx out i || anyF lab nx (cellS lab nx out i) l
theorem anyF_no (lab nx : Nat → Int) : ∀ (l : List Nat) (out : List Bool), anyF lab nx out l = false → scan lab nx out l = out ∧ ∀ i ∈ l, fire lab nx out i = false
  | [], out, _ => ⟨rfl, fun i hi => by cases hi⟩
  | i :: l, out, h => by
    have h1 : fire lab nx out i = false ∧ anyF lab nx (cellS lab nx out i) l = false := by
      unfold anyF at h
      simpa using h
    have he : cellS lab nx out i = out := if_neg (by rw [h1.1]; decide)
    rw [he] at h1
    obtain ⟨h2, h3⟩ := anyF_no lab nx l out h1.2
    refine ⟨by show scan lab nx (cellS lab nx out i) l = out; rw [he]; exact h2, fun j hj => ?_⟩
    rcases List.mem_cons.1 hj with rfl | hj
    · exact h1.1
    · exact h3 j hj
theorem anyF_yes (lab nx : Nat → Int) : ∀ (l : List Nat) (out : List Bool), (∀ i ∈ l, lab i < (out.length : Int)) → anyF lab nx out l = true → out.count true < (scan lab nx out l).count true
  | [], out, _, h => by cases h
  | i :: l, out, hl, h => by
    have h1 := cellS_cnt (nx := nx) (hl i List.mem_cons_self)
    have hl2 : ∀ j ∈ l, lab j < ((cellS lab nx out i).length : Int) := fun j hj => by rw [cellS_len]; exact hl j (List.mem_cons_of_mem _ hj)
    have h2 := (scan_cnt (nx := nx) l (cellS lab nx out i) hl2).1
    show _ < (scan lab nx (cellS lab nx out i) l).count true
    cases hf : fire lab nx out i with
    | true =>
      rw [hf, if_pos rfl] at h1
      omega
    | false =>
      rw [hf, if_neg (by decide)] at h1
      unfold anyF at h
      rw [hf, Bool.false_or] at h
      have := anyF_yes lab nx l (cellS lab nx out i) hl2 h
      omega
theorem w64t (t : Nat) (h : t ≤ 36) : wrap64 ((t : Int) + 1) = ((t + 1 : Nat) : Int) := by rw [w64 (by omega) (by omega)]; omega
theorem scan_cons (lab nx : Nat → Int) (out : List Bool) (i : Nat) (l : List Nat) : scan lab nx out (i :: l) = scan lab nx (cellS lab nx out i) l := rfl
theorem anyF_cons (lab nx : Nat → Int) (out : List Bool) (i : Nat) (l : List Nat) : anyF lab nx out (i :: l) = (fire lab nx out i || anyF lab nx (cellS lab nx out i) l) := rfl
theorem stay_eq {lab nx : Nat → Int} {out : List Bool} {i : Nat} (hf : fire lab nx out i = false) : cellS lab nx out i = out := if_neg (by rw [hf]; decide)
theorem go_eq {lab nx : Nat → Int} {out : List Bool} {i : Nat} (hf : fire lab nx out i = true) : cellS lab nx out i = out.set (lab i).toNat true := if_pos hf
theorem set_same (out : List Bool) (p : Nat) (h : rdOf false out (p : Int) = true) : out.set p true = out := by
  refine List.ext_getElem (by simp) fun j h1 h2 => ?_
  rw [List.getElem_set]
  split
  · rename_i he
    subst he
    unfold rdOf at h
    rw [Int.toNat_natCast, List.getD_eq_getElem?_getD, List.getElem?_eq_getElem h2] at h
    exact h.symm
  · rfl
theorem mem_idxs (L : List Int) (c x : Int) (t : Nat) : x ∈ idxs L c t ↔ 0 ≤ x ∧ x < (t : Int) ∧ rd L x = c := by
  unfold idxs
  rw [List.mem_map]
  constructor
  · rintro ⟨j, hj, rfl⟩
    have h1 := List.mem_filter.1 hj
    have h2 := List.mem_range.1 h1.1
    exact ⟨by omega, by omega, of_decide_eq_true h1.2⟩
  · rintro ⟨h0, h1, h2⟩
    refine ⟨x.toNat, List.mem_filter.2 ⟨List.mem_range.2 (by omega), decide_eq_true ?_⟩, by omega⟩
    rw [Int.toNat_of_nonneg h0]
    exact h2
section
variable {w h : Nat} {cs : List Int} (hw : w ≤ 7) (hh : h ≤ 7) (hs : w * h ≤ 36) (hn : cs.length = w * h)
include hw hh hs hn
theorem aA_eq {i d : Nat} (hi : i < w * h) (hd : d < 4) : spec_tiAhead.f w h cs i d = some (aA w h cs d i) := tiAhead_eq hw hh hs hi hd cs hn
theorem aA_lt {i d : Nat} (hi : i < w * h) (hd : d < 4) : aA w h cs d i < ((w * h : Nat) : Int) := by
  have := ah_lt hw hh hs hi hd
  unfold aA
  split
  · omega
  · split
    · omega
    · exact this.2
theorem skb_l1 {d : Nat} (hd : d < 4) {L : List Int} {n : Nat} (hL : L.length = w * h) (hlab : ∀ i : Nat, i < w * h → lb L i < (n : Int)) : ∀ (m t : Nat) (out : List Bool) (ch : Bool), t + m = w * h → out.length = n →
    ∀ K, Ev (fun k => spec_skBlocked.l0 k L d (scan (lb L) (aA w h cs d) out (List.range' t m)) (ch || anyF (lb L) (aA w h cs d) out (List.range' t m)) w h cs) K → Ev (fun k => spec_skBlocked.l1 k L d out ch L L.length t w h cs) K
  | 0, t, out, ch, ht, ho, K, hK => by
    rw [List.range'_zero] at hK
    refine Ev.step hK fun k => ?_
    rw [spec_skBlocked.l1, if_neg (by omega)]
    show _ = spec_skBlocked.l0 k L d out (ch || false) w h cs
    rw [Bool.or_false]
  | m + 1, t, out, ch, ht, ho, K, hK => by
    have htl : t < w * h := by omega
    rw [List.range'_succ, scan_cons, anyF_cons, ← Bool.or_assoc] at hK
    have ih := skb_l1 hd hL hlab m (t + 1) (cellS (lb L) (aA w h cs d) out t) (ch || fire (lb L) (aA w h cs d) out t) (by omega) ((cellS_len _ _).trans ho) K hK
    clear hK
    have c0 : (0 : Int) ≤ (t : Int) := Int.natCast_nonneg t
    have c1 : (t : Int) < (L.length : Int) := by rw [hL]; exact Int.ofNat_lt.2 htl
    have hlt := hlab t htl
    have hwt := w64t t (Nat.le_trans (Nat.le_of_lt htl) hs)
    by_cases h1 : rd L (t : Int) < 0
    · have hf : fire (lb L) (aA w h cs d) out t = false := by
        unfold fire lb
        rw [decide_eq_false (by omega)]
        rfl
      rw [stay_eq hf, hf, Bool.or_false] at ih
      refine Ev.step (g' := fun k => spec_skBlocked.j2 k L d out ch t (rd L t) L L.length t true w h cs) (Ev.step ih fun k => ?_) fun k => ?_
      · rw [spec_skBlocked.j2, if_pos rfl, hwt]
      · rw [spec_skBlocked.l1, if_pos c1, if_pos c0, if_pos c1, if_pos h1]
    · have h2 : 0 ≤ rd L (t : Int) := by omega
      have h3 : rd L (t : Int) < (out.length : Int) := by rw [ho]; exact hlt
      refine Ev.step (g' := fun k => spec_skBlocked.j2 k L d out ch t (rd L t) L L.length t (rdOf false out (rd L t)) w h cs) (Ev.step ih fun k => ?_) fun k => ?_
      · rw [spec_skBlocked.j2, aA_eq hw hh hs hn htl hd, Option.bind_some, hwt]
        clear hwt ih
        by_cases h4 : rdOf false out (rd L (t : Int)) = true
        · have hf : fire (lb L) (aA w h cs d) out t = false := by
            unfold fire lb
            rw [h4]
            simp
          rw [if_pos h4, stay_eq hf, hf, Bool.or_false]
        · rw [if_neg h4]
          have h4b : rdOf false out (rd L (t : Int)) = false := by simpa using h4
          have hfr : fire (lb L) (aA w h cs d) out t = (decide (aA w h cs d t < 0) || (decide (0 ≤ rd L ((aA w h cs d t).toNat : Int)) && rdOf false out (rd L ((aA w h cs d t).toNat : Int)))) := by
            unfold fire lb
            rw [h4b, decide_eq_true h2]
            rfl
          by_cases h5 : aA w h cs d t < 0
          · have hf : fire (lb L) (aA w h cs d) out t = true := by rw [hfr, decide_eq_true h5]; rfl
            rw [if_pos h5, if_pos h2, if_pos h3, go_eq hf, hf, Bool.or_true]
            rfl
          · have h6 := aA_lt hw hh hs hn htl hd
            have h7 : 0 ≤ aA w h cs d t := by omega
            have h8 : aA w h cs d t < (L.length : Int) := by omega
            rw [if_neg h5, if_pos h7, if_pos h8]
            rw [decide_eq_false h5, Bool.false_or, Int.toNat_of_nonneg h7] at hfr
            by_cases h9 : rd L (aA w h cs d t) ≥ 0
            · have h9b : 0 ≤ rd L (aA w h cs d t) := h9
              have h10 : rd L (aA w h cs d t) < (out.length : Int) := by
                have := hlab (aA w h cs d t).toNat (by omega)
                unfold lb at this
                rw [Int.toNat_of_nonneg h7] at this
                rw [ho]
                exact this
              rw [decide_eq_true h9b, Bool.true_and] at hfr
              rw [if_pos h9]
              by_cases h11 : rd L (aA w h cs d t) = rd L (t : Int)
              · have hf : fire (lb L) (aA w h cs d) out t = false := by rw [hfr, h11]; exact h4b
                rw [if_pos h11, stay_eq hf, hf, Bool.or_false]
              · rw [if_neg h11, if_pos h9b, if_pos h10]
                by_cases h12 : rdOf false out (rd L (aA w h cs d t)) = true
                · have hf : fire (lb L) (aA w h cs d) out t = true := by rw [hfr]; exact h12
                  rw [if_pos h12, if_pos h2, if_pos h3, go_eq hf, hf, Bool.or_true]
                  rfl
                · have hf : fire (lb L) (aA w h cs d) out t = false := by rw [hfr]; simpa using h12
                  rw [if_neg h12, stay_eq hf, hf, Bool.or_false]
            · have hf : fire (lb L) (aA w h cs d) out t = false := by
                rw [hfr, decide_eq_false (by omega)]
                rfl
              rw [if_neg h9, stay_eq hf, hf, Bool.or_false]
      · rw [spec_skBlocked.l1, if_pos c1, if_pos c0, if_pos c1, if_neg h1, if_pos h2, if_pos h3]
theorem skb_l0 {d : Nat} (hd : d < 4) {L : List Int} {n : Nat} (hL : L.length = w * h) (hlab : ∀ i : Nat, i < w * h → lb L i < (n : Int)) : ∀ (m : Nat) (out : List Bool), out.length = n → sound (w * h) (lb L) (aA w h cs d) out → n < out.count true + m →
    Ev (fun k => spec_skBlocked.l0 k L d out true w h cs) (blkL (w * h) n (lb L) (aA w h cs d))
  | 0, out, ho, hsn, hm => by
    have := List.count_le_length (a := true) (l := out)
    omega
  | m + 1, out, ho, hsn, hm => by
    have hall : ∀ i ∈ List.range' 0 (w * h), i < w * h ∧ lb L i < (out.length : Int) := fun i hi => by
      have := List.mem_range'_1.1 hi
      exact ⟨by omega, by rw [ho]; exact hlab i (by omega)⟩
    have h1 := skb_l1 hw hh hs hn hd hL hlab (w * h) 0 out false (by omega) ho (blkL (w * h) n (lb L) (aA w h cs d))
    rw [Bool.false_or] at h1
    refine Ev.step (h1 ?_) fun k => ?_
    · cases hf : anyF (lb L) (aA w h cs d) out (List.range' 0 (w * h)) with
      | false =>
        obtain ⟨h2, h3⟩ := anyF_no _ _ _ _ hf
        rw [h2, closed_eq ho hsn fun i hi _ => h3 i (List.mem_range'_1.2 ⟨by omega, by omega⟩)]
        refine Ev.step (Ev.const rfl) fun k => ?_
        rw [spec_skBlocked.l0, if_neg (by decide)]
      | true =>
        have h2 := anyF_yes _ _ _ _ (fun i hi => (hall i hi).2) hf
        exact skb_l0 hd hL hlab m _ ((scan_len _ _).trans ho) (scan_sound _ _ hall hsn) (by omega)
    · rw [spec_skBlocked.l0, if_pos rfl]
      rfl
theorem rdOf_rep (n : Nat) (x : Int) : rdOf false (List.replicate n false) x = false := by
  unfold rdOf
  rw [List.getD_eq_getElem?_getD, List.getElem?_replicate]
  split <;> rfl
theorem skBlocked_ev {d : Nat} (hd : d < 4) {L : List Int} {n : Nat} (hn36 : n ≤ 36) (hL : L.length = w * h) (hlab : ∀ i : Nat, i < w * h → lb L i < (n : Int)) :
    Ev (fun k => spec_skBlocked.f k w h cs L n d) (blkL (w * h) n (lb L) (aA w h cs d)) := by
  refine Ev.congr (skb_l0 hw hh hs hn hd hL hlab (n + 1) (List.replicate n false) (by simp) (fun p hp => ?_) (by omega)) fun k => ?_
  · rw [rdOf_rep hw hh hs hn] at hp
    cases hp
  · unfold spec_skBlocked.f
    rw [if_pos (by omega), Int.toNat_natCast, if_pos (Nat.le_trans hn36 (by decide))]
theorem bstep_eq {d : Nat} (hd : d < 4) {L : List Int} {n : Nat} {P : List (List Int)} (hP : ∀ v : Int, 0 ≤ v → v < ((w * h : Nat) : Int) → idxOf v P = if 0 ≤ rd L v then rd L v else -1) (hlab : ∀ i : Nat, i < w * h → lb L i < (n : Int))
    (out : List Bool) (ho : out.length = n) (i p : Nat) (hi : i < w * h) (hp : lb L i = p) : bstep w h cs (dirC d) P p out i = some (cellS (lb L) (aA w h cs d) out i) := by
  have hah := (ah_all ⟨w, by omega⟩ ⟨h, by omega⟩ ⟨i, by omega⟩ ⟨d, hd⟩ hi).1
  have hlt := ah_lt hw hh hs hi hd
  have hpn := hlab i hi
  simp only at hah
  unfold bstep
  rw [ahead_l, hah, Option.bind_some]
  have hfr : fire (lb L) (aA w h cs d) out i = (!rdOf false out (p : Int) && (decide (aA w h cs d i < 0) || (decide (0 ≤ lb L (aA w h cs d i).toNat) && rdOf false out (lb L (aA w h cs d i).toNat)))) := by
    unfold fire
    rw [hp, decide_eq_true (show (0 : Int) ≤ p by omega), Bool.true_and]
  have hset : ∀ b : Bool, (decide (aA w h cs d i < 0) || (decide (0 ≤ lb L (aA w h cs d i).toNat) && rdOf false out (lb L (aA w h cs d i).toNat))) = b → cellS (lb L) (aA w h cs d) out i = if b = true then out.set p true else out := by
    intro b hb
    rw [hb] at hfr
    cases b with
    | false => exact stay_eq (by rw [hfr, Bool.and_false])
    | true =>
      rw [if_pos rfl]
      cases hq : rdOf false out (p : Int) with
      | true =>
        rw [set_same out p hq]
        exact stay_eq (by rw [hfr, hq]; rfl)
      | false =>
        rw [go_eq (by rw [hfr, hq]; rfl), hp]
        rfl
  by_cases h1 : ah w h i d < 0
  · have ha : aA w h cs d i = -1 := if_pos h1
    rw [if_pos h1, hset true (by rw [ha]; rfl)]
    rfl
  · rw [if_neg h1, if_pos (show ah w h i d < (cs.length : Int) by omega)]
    by_cases h2 : rd cs (ah w h i d) = 35
    · have ha : aA w h cs d i = -1 := (if_neg h1).trans (if_pos h2)
      rw [if_pos h2, hset true (by rw [ha]; rfl)]
      rfl
    · have ha : aA w h cs d i = ah w h i d := (if_neg h1).trans (if_neg h2)
      have h0 : 0 ≤ ah w h i d := by omega
      have hlb : lb L (aA w h cs d i).toNat = rd L (ah w h i d) := by
        unfold lb
        rw [ha, Int.toNat_of_nonneg h0]
      have hln := hlab (ah w h i d).toNat (by omega)
      unfold lb at hln
      rw [Int.toNat_of_nonneg h0] at hln
      rw [if_neg h2, hP _ h0 hlt.2]
      have hb0 : decide (aA w h cs d i < 0) = false := by rw [ha]; exact decide_eq_false h1
      rw [hlb, hb0, Bool.false_or] at hset
      by_cases h3 : 0 ≤ rd L (ah w h i d)
      · rw [if_pos h3, if_neg (by omega), if_pos (by omega), hset (rdOf false out (rd L (ah w h i d))) (by rw [decide_eq_true h3, Bool.true_and])]
        split <;> rfl
      · rw [if_neg h3, if_pos (by omega), hset false (by rw [decide_eq_false h3, Bool.false_and])]
        rfl
theorem bpc_eq {d : Nat} (hd : d < 4) {L : List Int} {n : Nat} {P : List (List Int)} (hP : ∀ v : Int, 0 ≤ v → v < ((w * h : Nat) : Int) → idxOf v P = if 0 ≤ rd L v then rd L v else -1) (hlab : ∀ i : Nat, i < w * h → lb L i < (n : Int)) (p : Nat) :
    ∀ (l : List Int) (out : List Bool), out.length = n → (∀ x ∈ l, 0 ≤ x ∧ x < ((w * h : Nat) : Int) ∧ rd L x = p) → bpc w h cs (dirC d) P p l out = some (scan (lb L) (aA w h cs d) out (l.map Int.toNat))
  | [], out, _, _ => rfl
  | x :: l, out, ho, hl => by
    obtain ⟨h0, h1, h2⟩ := hl x List.mem_cons_self
    obtain ⟨i, rfl⟩ := Int.eq_ofNat_of_zero_le h0
    show (bstep w h cs (dirC d) P p out i).bind _ = _
    rw [bstep_eq hw hh hs hn hd hP hlab out ho i p (by omega) h2, Option.bind_some, bpc_eq hd hP hlab p l _ ((cellS_len _ _).trans ho) fun y hy => hl y (List.mem_cons_of_mem _ hy)]
    rfl
theorem bps_eq {d : Nat} (hd : d < 4) {L : List Int} {n : Nat} {P : List (List Int)} (hP : ∀ v : Int, 0 ≤ v → v < ((w * h : Nat) : Int) → idxOf v P = if 0 ≤ rd L v then rd L v else -1) (hlab : ∀ i : Nat, i < w * h → lb L i < (n : Int)) :
    ∀ (Q : List (List Int)) (p : Nat) (out : List Bool), out.length = n → (∀ (j : Nat) (q : List Int), Q[j]? = some q → ∀ x ∈ q, 0 ≤ x ∧ x < ((w * h : Nat) : Int) ∧ rd L x = ((p + j : Nat) : Int)) → bps w h cs (dirC d) P Q p out = some (scan (lb L) (aA w h cs d) out (Q.flatten.map Int.toNat))
  | [], p, out, _, _ => rfl
  | q :: Q, p, out, ho, hl => by
    show (bpc w h cs (dirC d) P p q out).bind (bps w h cs (dirC d) P Q (p + 1)) = _
    rw [bpc_eq hw hh hs hn hd hP hlab p q out ho (hl 0 q rfl), Option.bind_some, bps_eq hd hP hlab Q (p + 1) _ ((scan_len _ _).trans ho) fun j q' hq x hx => by rw [show p + 1 + j = p + (j + 1) by omega]; exact hl (j + 1) q' hq x hx]
    rw [List.flatten_cons, List.map_append]
    unfold scan
    rw [List.foldl_append]
theorem brn_eq {d : Nat} (hd : d < 4) {L : List Int} {n : Nat} {P : List (List Int)} (hP : ∀ v : Int, 0 ≤ v → v < ((w * h : Nat) : Int) → idxOf v P = if 0 ≤ rd L v then rd L v else -1) (hlab : ∀ i : Nat, i < w * h → lb L i < (n : Int))
    (hl : ∀ (j : Nat) (q : List Int), P[j]? = some q → ∀ x ∈ q, 0 ≤ x ∧ x < ((w * h : Nat) : Int) ∧ rd L x = ((0 + j : Nat) : Int)) : ∀ (m : Nat) (out : List Bool), out.length = n → brn w h cs (dirC d) P m out = some (runs (lab := lb L) (nx := aA w h cs d) (P.flatten.map Int.toNat) m out)
  | 0, out, _ => rfl
  | m + 1, out, ho => by
    show (bps w h cs (dirC d) P P 0 out).bind (brn w h cs (dirC d) P m) = _
    rw [bps_eq hw hh hs hn hd hP hlab P 0 out ho hl, Option.bind_some, brn_eq hd hP hlab hl m _ ((scan_len _ _).trans ho)]
    rfl
theorem lab_lt {L : List Int} (ho : OI w h cs L (w * h)) (i : Nat) (hi : i < w * h) : lb L i < ((mins w h cs (w * h)).length : Int) := by
  unfold lb
  by_cases h0 : 0 ≤ rd L (i : Int)
  · obtain ⟨m, m1, m2, _, m4⟩ := ho.lab i (by omega) (by omega) h0
    have := mins_lt hw hh hs m2 m1
    omega
  · omega
theorem parts_get {L : List Int} (ho : OI w h cs L (w * h)) (j : Nat) (hj : j < (mins w h cs (w * h)).length) : (parts w h cs (w * h))[j]? = some (idxs L (j : Int) L.length) := by
  rw [← OI.lists_eq hw hh hs ho (w * h) (Nat.le_refl _)]
  unfold lists
  rw [List.getElem?_map, List.getElem?_range hj]
  rfl
theorem parts_idx {L : List Int} (ho : OI w h cs L (w * h)) (v : Int) (h0 : 0 ≤ v) (h1 : v < ((w * h : Nat) : Int)) : idxOf v (parts w h cs (w * h)) = if 0 ≤ rd L v then rd L v else -1 := by
  have hpl : (parts w h cs (w * h)).length = (mins w h cs (w * h)).length := by unfold parts; rw [List.length_map]
  have hmem : ∀ j : Nat, j < (mins w h cs (w * h)).length → (v ∈ (parts w h cs (w * h)).getD j [] ↔ rd L v = j) := by
    intro j hj
    rw [List.getD_eq_getElem?_getD, parts_get hw hh hs hn ho j hj]
    show v ∈ idxs L j L.length ↔ _
    rw [mem_idxs, ho.len]
    exact ⟨fun h => h.2.2, fun h => ⟨h0, h1, h⟩⟩
  by_cases h2 : 0 ≤ rd L v
  · rw [if_pos h2]
    have h3 := lab_lt hw hh hs hn ho v.toNat (by omega)
    unfold lb at h3
    rw [Int.toNat_of_nonneg h0] at h3
    have h4 := idxOf_hit v (parts w h cs (w * h)) (rd L v).toNat (by omega) ((hmem _ (by omega)).2 (by omega)) (fun j hj h5 => by have := (hmem j (by omega)).1 h5; omega)
    rw [h4]
    omega
  · rw [if_neg h2]
    exact idxOf_miss v _ fun j hj h5 => by have := (hmem j (by omega)).1 h5; omega
theorem blocked_eq {d : Nat} (hd : d < 4) {L : List Int} (ho : OI w h cs L (w * h)) : impl_tray_blocked.f w h cs (parts w h cs (w * h)) (dirC d) = some (blkL (w * h) (mins w h cs (w * h)).length (lb L) (aA w h cs d)) := by
  have hml := mins_len w h cs (w * h)
  have hpl : (parts w h cs (w * h)).length = (mins w h cs (w * h)).length := by unfold parts; rw [List.length_map]
  have hsm : smallP (parts w h cs (w * h)) = true := by
    unfold smallP
    rw [Bool.and_eq_true, decide_eq_true_eq, List.all_eq_true]
    refine ⟨by omega, fun p hp => decide_eq_true ?_⟩
    unfold parts at hp
    obtain ⟨m, _, rfl⟩ := List.mem_map.1 hp
    have := comp_len w h cs (w * h) m
    omega
  have hl : ∀ (j : Nat) (q : List Int), (parts w h cs (w * h))[j]? = some q → ∀ x ∈ q, 0 ≤ x ∧ x < ((w * h : Nat) : Int) ∧ rd L x = ((0 + j : Nat) : Int) := by
    intro j q hq x hx
    have hj : j < (mins w h cs (w * h)).length := by
      have := (List.getElem?_eq_some_iff.1 hq).1
      omega
    rw [parts_get hw hh hs hn ho j hj] at hq
    obtain rfl := Option.some.inj hq
    rw [mem_idxs, ho.len] at hx
    exact ⟨hx.1, hx.2.1, by rw [Nat.zero_add]; exact hx.2.2⟩
  unfold impl_tray_blocked.f
  rw [if_pos hsm, brn_eq hw hh hs hn hd (fun v h0 h1 => parts_idx hw hh hs hn ho v h0 h1) (fun i hi => lab_lt hw hh hs hn ho i hi) hl _ _ (by rw [List.length_replicate]; exact hpl)]
  congr 1
  refine runs_end _ (fun i hi => ?_) (fun i hi h0 => ?_) _ _ (by rw [List.length_replicate]; exact hpl) (fun p hp => ?_) (by omega)
  · obtain ⟨x, hx, rfl⟩ := List.mem_map.1 hi
    obtain ⟨q, hq, hxq⟩ := List.mem_flatten.1 hx
    obtain ⟨j, hj⟩ := List.getElem?_of_mem hq
    obtain ⟨h0, h1, _⟩ := hl j q hj x hxq
    exact ⟨by omega, lab_lt hw hh hs hn ho _ (by omega)⟩
  · have h2 := lab_lt hw hh hs hn ho i hi
    refine List.mem_map.2 ⟨(i : Int), List.mem_flatten.2 ⟨_, List.mem_of_getElem? (parts_get hw hh hs hn ho (lb L i).toNat (by omega)), ?_⟩, Int.toNat_natCast i⟩
    rw [mem_idxs, ho.len]
    unfold lb at h0 ⊢
    exact ⟨by omega, by omega, by omega⟩
  · rw [rdOf_rep hw hh hs hn] at hp
    cases hp
end
end Go.Proofs.YtbplbbialcbceaaDoor.Q
