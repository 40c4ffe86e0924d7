/- The plain law of reading a tray's text: the program's two readers answer as 'trayOf'. -/
import Derived.Test.YtbplbbialcbceaaDoorXlib
import Derived.Test.YtbplbbialcbceaaDoorXconv
import Derived.Test.YtbplbbialcbceaaDoorXread
import Derived.Test.YtbplbbialcbceaaDoorQa
import Derived.Test.YtbplbbialcbceaaDoorQc
import Derived.Lib.SlTrimSet
namespace Go.Proofs.YtbplbbialcbceaaDoor.Q
open Go.RowKit Go.Proofs.YtbplbbialcbceaaDoorW.PrintWords Go.Proofs.YtbplbbialcbceaaDoorW.PrintLast Go.Proofs.YtbplbbialcbceaaDoorW.PrintMore
/-! ### from some number of rounds on -/
def Ev {α : Type} (g : Nat → Option α) (r : α) : Prop := ∃ k0, ∀ k, k0 ≤ k → g k = some r
theorem Ev.step {α : Type} {g g' : Nat → Option α} {r : α} (h : Ev g' r) (e : ∀ k, g (k + 1) = g' k) : Ev g r := by
  obtain ⟨k0, h⟩ := h
  refine ⟨k0 + 1, fun k hk => ?_⟩
  obtain ⟨m, rfl⟩ : ∃ m, k = m + 1 := ⟨k - 1, by omega⟩
  rw [e]
  exact h m (by omega)
theorem Ev.congr {α : Type} {g g' : Nat → Option α} {r : α} (h : Ev g' r) (e : ∀ k, g k = g' k) : Ev g r := by
  obtain ⟨k0, h⟩ := h
  exact ⟨k0, fun k hk => (e k).trans (h k hk)⟩
theorem Ev.const {α : Type} {o : Option α} {r : α} (h : o = some r) : Ev (fun _ => o) r := ⟨0, fun _ _ => h⟩
theorem Ev.bind {α β : Type} {g : Nat → Option α} {f : Nat → α → Option β} {a : α} {r : β} (h1 : Ev g a) (h2 : Ev (fun k => f k a) r) : Ev (fun k => (g k).bind (f k)) r := by
  obtain ⟨k1, h1⟩ := h1
  obtain ⟨k2, h2⟩ := h2
  refine ⟨max k1 k2, fun k hk => ?_⟩
  show (g k).bind (f k) = some r
  rw [h1 k (by omega)]
  exact h2 k (by omega)
theorem Ev.out {α : Type} {g : Nat → Option α} {r : α} (h : Ev g r) : ∃ k, g k = some r := by
  obtain ⟨k, h⟩ := h
  exact ⟨k, h k (Nat.le_refl _)⟩
theorem ite_iff {p q : Prop} [Decidable p] [Decidable q] {α : Type} {x y : α} (h : p ↔ q) : (if p then x else y) = if q then x else y := by
  by_cases hq : q
  · rw [if_pos hq, if_pos (h.2 hq)]
  · rw [if_neg hq, if_neg fun hp => hq (h.1 hp)]
theorem w64 {n : Int} (h0 : -9223372036854775808 ≤ n) (h1 : n < 9223372036854775808) : wrap64 n = n := by unfold wrap64; omega
/-! ### cells -/
def cellSet : List UInt8 := [35, 46, 111, 97, 98, 99, 100, 101, 102]
def isCellB (b : UInt8) : Bool := cellSet.contains b
def ints (l : List UInt8) : List Int := l.map fun b => (b.toNat : Int)
theorem tyIs_eq (b : UInt8) : spec_tyIs.f (b.toNat : Int) = some (isCellB b) := by
  have h : ∀ n : Fin 256, spec_tyIs.f (n.val : Int) = some (isCellB (UInt8.ofNat n.val)) := by decide +kernel
  have h2 := h ⟨b.toNat, b.toNat_lt⟩
  simpa using h2
theorem ints_length (l : List UInt8) : (ints l).length = l.length := by simp [ints]
theorem ints_append (l m : List UInt8) : ints (l ++ m) = ints l ++ ints m := by simp [ints]
theorem ints_count (c : UInt8) : ∀ l : List UInt8, (ints l).count (c.toNat : Int) = l.count c
  | [] => rfl
  | b :: l => by
    have ih := ints_count c l
    by_cases e : b = c
    · subst e
      rw [List.count_cons_self, ← ih]
      exact List.count_cons_self
    · rw [List.count_cons_of_ne e, ← ih]
      refine List.count_cons_of_ne ?_
      intro e2
      have e3 : (b.toNat : Int) = (c.toNat : Int) := e2
      exact e (UInt8.toNat_inj.1 (by omega))
/-- No name stands twice. -/
def namedOK (cs : List Int) : Prop := ∀ c : Int, 97 ≤ c → c ≤ 102 → cs.count c ≤ 1
instance (cs : List Int) : Decidable (namedOK cs) :=
  decidable_of_iff (∀ n : Fin 6, cs.count (97 + (n.val : Int)) ≤ 1) ⟨fun h c h1 h2 => by
    have h3 : cs.count (97 + ((c - 97).toNat : Int)) ≤ 1 := h ⟨(c - 97).toNat, by omega⟩
    rw [show (97 + ((c - 97).toNat : Int)) = c by omega] at h3
    exact h3, fun h n => h _ (by omega) (by omega)⟩
theorem namedOK_nil : namedOK [] := fun c _ _ => by simp
theorem namedOK_snoc (cs : List Int) (x : Int) (h : namedOK cs) : namedOK (cs ++ [x]) ↔ ¬ (97 ≤ x ∧ x ≤ 102 ∧ x ∈ cs) := by
  constructor
  · intro h2 ⟨h3, h4, h5⟩
    have := h2 x h3 h4
    have h6 : 0 < cs.count x := List.count_pos_iff.2 h5
    rw [List.count_append, List.count_singleton_self] at this
    omega
  · intro h2 c h3 h4
    rw [List.count_append]
    by_cases e : x = c
    · subst e
      have : cs.count x = 0 := List.count_eq_zero.2 fun h5 => h2 ⟨h3, h4, h5⟩
      rw [this, List.count_singleton_self]
      omega
    · have h5 := h c h3 h4
      have : [x].count c = 0 := by
        rw [List.count_eq_zero]
        simp
        exact fun e2 => e e2.symm
      omega
theorem namedOK_take (cs : List Int) (i : Nat) (h : namedOK cs) : namedOK (cs.take i) := fun c h1 h2 =>
  Nat.le_trans ((List.take_sublist i cs).count_le c) (h c h1 h2)
/-! ### rows -/
theorem rows_size (c : UInt8) : ∀ l, (rows c l).flatten.length + (rows c l).length = l.length + 1
  | [] => by simp [rows]
  | b :: l => by
    have ih := rows_size c l
    unfold rows
    split
    · simp only [List.flatten_cons, List.nil_append, List.length_cons]; omega
    · split
      · rename_i e; exact absurd e (rows_ne c l)
      · rename_i r rs e
        rw [e] at ih
        simp only [List.flatten_cons, List.length_append, List.length_cons] at ih ⊢
        omega
theorem rows_count (c d : UInt8) (hd : d ≠ c) : ∀ l, (rows c l).flatten.count d = l.count d
  | [] => by simp [rows]
  | b :: l => by
    have ih := rows_count c d hd l
    unfold rows
    split
    · rename_i e
      subst e
      rw [List.flatten_cons, List.nil_append, ih, List.count_cons_of_ne (Ne.symm hd)]
    · split
      · rename_i e; exact absurd e (rows_ne c l)
      · rename_i r rs e
        rw [e] at ih
        rw [List.flatten_cons] at ih ⊢
        rw [List.cons_append, List.count_cons, ih, List.count_cons]
def tw (rs : List (List UInt8)) : Nat := (rs.headD []).length
def evenRows (w : Nat) (rs : List (List UInt8)) : Prop := ∀ r ∈ rs, r.length = w ∧ r.all isCellB = true
instance (w : Nat) (rs : List (List UInt8)) : Decidable (evenRows w rs) := inferInstanceAs (Decidable (∀ r ∈ rs, _))
theorem evenRows_cons (w : Nat) (r : List UInt8) (rs : List (List UInt8)) : evenRows w (r :: rs) ↔ (r.length = w ∧ r.all isCellB = true) ∧ evenRows w rs := by
  unfold evenRows
  simp only [List.mem_cons, forall_eq_or_imp]
theorem evenRows_flat (w : Nat) : ∀ rs, evenRows w rs → rs.flatten.length = w * rs.length
  | [], _ => by simp
  | r :: rs, h => by
    have h2 := (evenRows_cons w r rs).1 h
    rw [List.flatten_cons, List.length_append, evenRows_flat w rs h2.2, h2.1.1, List.length_cons, Nat.mul_add, Nat.mul_one]
    omega
def okRows (rs : List (List UInt8)) : Prop := (1 ≤ tw rs ∧ tw rs ≤ 7 ∧ rs.length ≤ 7 ∧ tw rs * rs.length ≤ 36) ∧ evenRows (tw rs) rs ∧ namedOK (ints rs.flatten)
instance (rs : List (List UInt8)) : Decidable (okRows rs) := inferInstanceAs (Decidable (_ ∧ _ ∧ _))
def trayRows (rs : List (List UInt8)) : Option (Int × Int × List Int) := if okRows rs then some (tw rs, rs.length, ints rs.flatten) else none
/-- The tray that a text tells. -/
def trayOf (s : ByteArray) : Option (Int × Int × List Int) := trayRows (rows 47 s.data.toList)
theorem trayOf_small (s : ByteArray) (h : trayOf s ≠ none) : s.size ≤ 42 := by
  unfold trayOf trayRows at h
  split at h
  · rename_i hk
    have h1 := rows_size 47 s.data.toList
    have h2 := evenRows_flat _ _ hk.2.1
    have h3 := data_length s
    have := hk.1
    omega
  · exact absurd rfl h
/-! ### the stated reader -/
def failT : Int × Int × List Int × Bool := (0, 0, [], false)
def tellT : Option (Int × Int × List Int) → Int × Int × List Int × Bool
  | none => failT
  | some (w, h, cs) => (w, h, cs, true)
theorem ty_l2 (cs pre : List Int) (i w h : Int) (x : Int) (K : Int × Int × List Int × Bool) (hl : pre.length ≤ 36)
    (hK : Ev (fun k => spec_tyRead.l1 k cs cs.length (wrap64 (i + 1)) w h cs) K) :
    ∀ (m j : Nat), j + m = pre.length → Ev (fun k => spec_tyRead.l2 k x cs cs.length i pre pre.length j w h cs) (if 97 ≤ x ∧ x ≤ 102 ∧ x ∈ pre.drop j then failT else K)
  | 0, j, hj => by
    refine Ev.step (g' := fun k => spec_tyRead.l1 k cs cs.length (wrap64 (i + 1)) w h cs) ?_ (fun k => ?_)
    · rw [List.drop_eq_nil_of_le (by omega), if_neg (by simp)]
      exact hK
    · rw [spec_tyRead.l2, if_neg (by omega)]
  | m + 1, j, hj => by
    have ih := ty_l2 cs pre i w h x K hl hK m (j + 1) (by omega)
    have hlt : j < pre.length := by omega
    have hd : pre.drop j = pre[j] :: pre.drop (j + 1) := List.drop_eq_getElem_cons hlt
    have hr : rd pre (j : Int) = pre[j] := by
      unfold rd
      rw [Int.toNat_natCast, List.getD_eq_getElem?_getD, List.getElem?_eq_getElem hlt]
      rfl
    have hw : wrap64 ((j : Int) + 1) = ((j + 1 : Nat) : Int) := by rw [w64 (by omega) (by omega)]; omega
    rw [hd]
    by_cases hx : x = pre[j] ∧ 97 ≤ x ∧ x ≤ 102
    · rw [if_pos ⟨hx.2.1, hx.2.2, by rw [hx.1]; exact List.mem_cons_self⟩]
      refine Ev.step (Ev.const (o := some failT) rfl) (fun k => ?_)
      rw [spec_tyRead.l2, if_pos (by omega), if_pos (by omega), if_pos (by omega), hr, if_pos hx.1, if_pos (by omega), if_pos (by omega)]
      rfl
    · have e : (97 ≤ x ∧ x ≤ 102 ∧ x ∈ pre[j] :: pre.drop (j + 1)) ↔ (97 ≤ x ∧ x ≤ 102 ∧ x ∈ pre.drop (j + 1)) := by
        constructor
        · rintro ⟨h1, h2, h3⟩
          refine ⟨h1, h2, (List.mem_cons.1 h3).resolve_left fun e => hx ⟨e, h1, h2⟩⟩
        · rintro ⟨h1, h2, h3⟩
          exact ⟨h1, h2, List.mem_cons_of_mem _ h3⟩
      rw [ite_iff e]
      refine Ev.step ih (fun k => ?_)
      rw [spec_tyRead.l2, if_pos (by omega), if_pos (by omega), if_pos (by omega), hr, hw]
      by_cases h1 : x = pre[j]
      · rw [if_pos h1]
        by_cases h2 : x ≥ 97
        · rw [if_pos h2, if_neg (fun h3 => hx ⟨h1, h2, h3⟩)]
        · rw [if_neg h2]
      · rw [if_neg h1]
theorem ty_l2_hit (cs pre : List Int) (i w h x : Int) (hl : pre.length ≤ 36) (h1 : 97 ≤ x) (h2 : x ≤ 102) :
    ∀ (m j : Nat), j + m = pre.length → x ∈ pre.drop j → Ev (fun k => spec_tyRead.l2 k x cs cs.length i pre pre.length j w h cs) failT
  | 0, j, hj, hx => by
    rw [List.drop_eq_nil_of_le (by omega)] at hx
    exact absurd hx (by simp)
  | m + 1, j, hj, hx => by
    have hlt : j < pre.length := by omega
    have hd : pre.drop j = pre[j] :: pre.drop (j + 1) := List.drop_eq_getElem_cons hlt
    have hr : rd pre (j : Int) = pre[j] := by
      unfold rd
      rw [Int.toNat_natCast, List.getD_eq_getElem?_getD, List.getElem?_eq_getElem hlt]
      rfl
    have hw : wrap64 ((j : Int) + 1) = ((j + 1 : Nat) : Int) := by rw [w64 (by omega) (by omega)]; omega
    by_cases hp : x = pre[j]
    · refine Ev.step (Ev.const (o := some failT) rfl) (fun k => ?_)
      rw [spec_tyRead.l2, if_pos (by omega), if_pos (by omega), if_pos (by omega), hr, if_pos hp, if_pos (by omega), if_pos (by omega)]
      rfl
    · rw [hd] at hx
      refine Ev.step (ty_l2_hit cs pre i w h x hl h1 h2 m (j + 1) (by omega) ((List.mem_cons.1 hx).resolve_left hp)) (fun k => ?_)
      rw [spec_tyRead.l2, if_pos (by omega), if_pos (by omega), if_pos (by omega), hr, hw, if_neg hp]
theorem ty_l1 (cs : List Int) (w h : Int) (hl : cs.length ≤ 36) :
    ∀ (m i : Nat), i + m = cs.length → namedOK (cs.take i) → Ev (fun k => spec_tyRead.l1 k cs cs.length i w h cs) (if namedOK cs then (w, h, cs, true) else failT)
  | 0, i, hi, hn => by
    have e : cs.take i = cs := List.take_of_length_le (by omega)
    rw [e] at hn
    rw [if_pos hn]
    refine Ev.step (Ev.const (o := some (w, h, cs, true)) rfl) (fun k => ?_)
    rw [spec_tyRead.l1, if_neg (by omega)]
  | m + 1, i, hi, hn => by
    have hlt : i < cs.length := by omega
    have hr : rd cs (i : Int) = cs[i] := by
      unfold rd
      rw [Int.toNat_natCast, List.getD_eq_getElem?_getD, List.getElem?_eq_getElem hlt]
      rfl
    have hw : wrap64 ((i : Int) + 1) = ((i + 1 : Nat) : Int) := by rw [w64 (by omega) (by omega)]; omega
    have ht : cs.take (i + 1) = cs.take i ++ [cs[i]] := List.take_succ_eq_append_getElem hlt
    have hs := namedOK_snoc (cs.take i) cs[i] hn
    have hpl : (cs.take i).length ≤ 36 := by rw [List.length_take]; omega
    have hb : ∀ K, Ev (fun k => spec_tyRead.l1 k cs cs.length (wrap64 ((i : Int) + 1)) w h cs) K →
        Ev (fun k => spec_tyRead.l1 k cs cs.length i w h cs) (if 97 ≤ cs[i] ∧ cs[i] ≤ 102 ∧ cs[i] ∈ cs.take i then failT else K) := by
      intro K hK
      have h2 := ty_l2 cs (cs.take i) i w h cs[i] K hpl hK (cs.take i).length 0 (by omega)
      refine Ev.step h2 (fun k => ?_)
      rw [spec_tyRead.l1, if_pos (by omega), if_pos (by omega), if_pos (by omega), if_pos (by omega), hr]
      simp only [Option.bind_some, Int.toNat_natCast]
      rfl
    by_cases hc : 97 ≤ cs[i] ∧ cs[i] ≤ 102 ∧ cs[i] ∈ cs.take i
    · have h3 : ¬ namedOK cs := fun h4 => by
        have h5 := namedOK_take cs (i + 1) h4
        rw [ht] at h5
        exact hs.1 h5 hc
      rw [if_neg h3]
      -- the tail's answer does not matter: the inner walk fails first
      refine Ev.step (g' := fun k => spec_tyRead.l2 k cs[i] cs cs.length i (cs.take i) (cs.take i).length 0 w h cs) ?_ (fun k => ?_)
      · exact ty_l2_hit cs (cs.take i) i w h cs[i] hpl hc.1 hc.2.1 (cs.take i).length 0 (by omega) hc.2.2
      · rw [spec_tyRead.l1, if_pos (by omega), if_pos (by omega), if_pos (by omega), if_pos (by omega), hr]
        simp only [Option.bind_some, Int.toNat_natCast]
    · have h4 := ty_l1 cs w h hl m (i + 1) (by omega) (by rw [ht]; exact hs.2 hc)
      rw [← hw] at h4
      have h5 := hb _ h4
      rwa [if_neg hc] at h5
def rr : List (List UInt8) → Nat → Nat → Nat → List Int → Option (Nat × Nat × List Int)
  | [], _, w, h, cs => some (w, h, cs)
  | r :: rs, x, w, h, cs => if r.all isCellB = true ∧ x + r.length ≠ 0 ∧ (h = 0 ∨ x + r.length = w) then rr rs 0 (x + r.length) (h + 1) (cs ++ ints r) else none
def tellR : Option (Nat × Nat × List Int) → Int × Int × List Int × Bool
  | none => failT
  | some (w, h, cs) => if (w ≤ 7 ∧ h ≤ 7 ∧ cs.length ≤ 36) ∧ namedOK cs then (w, h, cs, true) else failT
theorem ty_end (s : ByteArray) (w h : Nat) (cs : List Int) (i x : Int) (hi : ¬ i ≤ (s.size : Int)) : Ev (fun k => spec_tyRead.l0 k s x i w h cs) (tellR (some (w, h, cs))) := by
  by_cases hc : w ≤ 7 ∧ h ≤ 7 ∧ cs.length ≤ 36
  · have h1 := ty_l1 cs w h hc.2.2 cs.length 0 (by omega) (by simpa using namedOK_nil)
    have e : tellR (some (w, h, cs)) = if namedOK cs then ((w : Int), (h : Int), cs, true) else failT := by
      unfold tellR
      exact ite_iff ⟨fun h2 => h2.2, fun h2 => ⟨hc, h2⟩⟩
    rw [e]
    refine Ev.step (g' := fun k => spec_tyRead.j2 k false w h cs) (Ev.step h1 fun k => ?_) (fun k => ?_)
    · rw [spec_tyRead.j2, if_neg (by decide)]
      rfl
    · rw [spec_tyRead.l0, if_neg hi, if_neg (by omega), if_neg (by omega), show decide ((cs.length : Int) > 36) = false from decide_eq_false (by omega)]
  · have e : tellR (some (w, h, cs)) = failT := if_neg fun h2 => hc h2.1
    rw [e]
    refine Ev.step (g' := fun k => spec_tyRead.j2 k true w h cs) (Ev.step (Ev.const (o := some failT) rfl) fun k => ?_) (fun k => ?_)
    · rw [spec_tyRead.j2, if_pos rfl]
      rfl
    · rw [spec_tyRead.l0, if_neg hi]
      by_cases h1 : (w : Int) > 7
      · rw [if_pos h1]
      · rw [if_neg h1]
        by_cases h2 : (h : Int) > 7
        · rw [if_pos h2]
        · rw [if_neg h2, show decide ((cs.length : Int) > 36) = true from decide_eq_true (by omega)]
theorem ty_row (s : ByteArray) (x w h i : Nat) (cs : List Int) (hh : h ≤ 42) (hi : i ≤ 42) (K : Int × Int × List Int × Bool) (hK : Ev (fun k => spec_tyRead.l0 k s 0 ((i + 1 : Nat) : Int) x ((h + 1 : Nat) : Int) cs) K) :
    Ev (fun k => spec_tyRead.j1 k s x i false w h cs) (if x ≠ 0 ∧ (h = 0 ∨ x = w) then K else failT) := by
  have hw1 : wrap64 ((i : Int) + 1) = ((i + 1 : Nat) : Int) := by rw [w64 (by omega) (by omega)]; omega
  have hw2 : wrap64 ((h : Int) + 1) = ((h + 1 : Nat) : Int) := by rw [w64 (by omega) (by omega)]; omega
  by_cases hc : x ≠ 0 ∧ (h = 0 ∨ x = w)
  · rw [if_pos hc]
    refine Ev.step hK fun k => ?_
    rw [spec_tyRead.j1, if_neg (by decide), hw1, hw2]
    by_cases h1 : (h : Int) > 0
    · rw [if_pos h1, if_pos (by omega), if_neg (by omega)]
    · rw [if_neg h1, if_neg (by omega)]
  · rw [if_neg hc]
    refine Ev.step (Ev.const (o := some failT) rfl) fun k => ?_
    rw [spec_tyRead.j1, if_neg (by decide)]
    by_cases h1 : (h : Int) > 0
    · rw [if_pos h1]
      by_cases h2 : (x : Int) = w
      · rw [if_pos h2, if_pos (by omega)]
        rfl
      · rw [if_neg h2]
        rfl
    · rw [if_neg h1, if_pos (by omega)]
      rfl
theorem bt_drop (s : ByteArray) (i : Nat) (b : UInt8) (l : List UInt8) (h : s.data.toList.drop i = b :: l) : bt s (i : Int) = b.toNat ∧ i < s.size ∧ s.data.toList.drop (i + 1) = l := by
  have h1 : i < s.data.toList.length := by
    rcases Nat.lt_or_ge i s.data.toList.length with h2 | h2
    · exact h2
    · rw [List.drop_eq_nil_of_le h2] at h
      cases h
  have h2 := List.drop_eq_getElem_cons h1
  rw [h] at h2
  injection h2 with h3 h4
  have hlt : i < s.size := by rw [← data_length]; exact h1
  refine ⟨?_, hlt, h4.symm⟩
  rw [← rd_bytesOf]
  unfold rd bytesOf
  rw [Int.toNat_natCast, List.getD_eq_getElem?_getD, List.getElem?_map, List.getElem?_eq_getElem h1, ← h3]
  rfl
theorem ty_l0 (s : ByteArray) (hs : s.size ≤ 42) : ∀ (rest : List UInt8) (i x w h : Nat) (cs : List Int), s.data.toList.drop i = rest → i ≤ s.size → x ≤ i → h ≤ i → cs.length ≤ i →
    Ev (fun k => spec_tyRead.l0 k s x i w h cs) (tellR (rr (rows 47 rest) x w h cs))
  | [], i, x, w, h, cs, hd, hi, hx, hh, hc => by
    have hle : i = s.size := by
      have : s.data.toList.length ≤ i := List.drop_eq_nil_iff.1 hd
      rw [data_length] at this
      omega
    subst hle
    have h1 := ty_end s x (h + 1) cs ((s.size + 1 : Nat) : Int) 0 (by omega)
    have h2 := ty_row s x w h s.size cs (by omega) (by omega) _ h1
    have e : tellR (rr (rows 47 []) x w h cs) = if x ≠ 0 ∧ (h = 0 ∨ x = w) then tellR (some (x, h + 1, cs)) else failT := by
      simp only [rows, rr, List.all_nil, true_and, List.length_nil, Nat.add_zero, ints, List.map_nil, List.append_nil]
      by_cases hc : x ≠ 0 ∧ (h = 0 ∨ x = w)
      · rw [if_pos hc, if_pos hc]
      · rw [if_neg hc, if_neg hc]
        rfl
    rw [e]
    refine Ev.step h2 fun k => ?_
    rw [spec_tyRead.l0, if_pos (by omega), if_neg (by omega)]
  | b :: l, i, x, w, h, cs, hd, hi, hx, hh, hc => by
    obtain ⟨hb, hlt, hd2⟩ := bt_drop s i b l hd
    have hw1 : wrap64 ((i : Int) + 1) = ((i + 1 : Nat) : Int) := by rw [w64 (by omega) (by omega)]; omega
    have hw2 : wrap64 ((x : Int) + 1) = ((x + 1 : Nat) : Int) := by rw [w64 (by omega) (by omega)]; omega
    by_cases h47 : b = 47
    · subst h47
      have h1 := ty_l0 s hs l (i + 1) 0 x (h + 1) cs hd2 (by omega) (by omega) (by omega) (by omega)
      have h2 := ty_row s x w h i cs (by omega) (by omega) _ h1
      have e : tellR (rr (rows 47 (47 :: l)) x w h cs) = if x ≠ 0 ∧ (h = 0 ∨ x = w) then tellR (rr (rows 47 l) 0 x (h + 1) cs) else failT := by
        rw [rows, if_pos rfl]
        simp only [rr, List.all_nil, true_and, List.length_nil, Nat.add_zero, ints, List.map_nil, List.append_nil]
        by_cases hc : x ≠ 0 ∧ (h = 0 ∨ x = w)
        · rw [if_pos hc, if_pos hc]
        · rw [if_neg hc, if_neg hc]
          rfl
      rw [e]
      refine Ev.step h2 fun k => ?_
      rw [spec_tyRead.l0, if_pos (by omega), if_pos (by omega), if_pos (by omega), hb]
      rfl
    · have hne : ((b.toNat : Int) != 47) = true := by
        rw [bne_iff_ne]
        intro e
        apply h47
        apply UInt8.toNat_inj.1
        show b.toNat = 47
        omega
      obtain ⟨r, rs, e1⟩ : ∃ r rs, rows 47 l = r :: rs := by
        rcases e : rows 47 l with _ | ⟨r, rs⟩
        · exact absurd e (rows_ne 47 l)
        · exact ⟨r, rs, rfl⟩
      have e2 : rows 47 (b :: l) = (b :: r) :: rs := by rw [rows, if_neg h47, e1]
      have hstep : ∀ g : Nat → Option (Int × Int × List Int × Bool), ∀ K, Ev g K → (∀ k, spec_tyRead.j1 (k + 1) s x i true w h cs = g k) → Ev (fun k => spec_tyRead.l0 k s x i w h cs) K := by
        intro g K hg he
        refine Ev.step (g' := fun k => spec_tyRead.j1 k s x i true w h cs) (Ev.step hg he) fun k => ?_
        rw [spec_tyRead.l0, if_pos (by omega), if_pos (by omega), if_pos (by omega), hb, hne]
      by_cases hcb : isCellB b = true
      · have h1 := ty_l0 s hs l (i + 1) (x + 1) w h (cs ++ [(b.toNat : Int)]) hd2 (by omega) (by omega) (by omega) (by rw [List.length_append]; simp; omega)
        have e : rr (rows 47 (b :: l)) x w h cs = rr (rows 47 l) (x + 1) w h (cs ++ [(b.toNat : Int)]) := by
          rw [e1, e2]
          simp only [rr, List.all_cons, hcb, Bool.true_and, List.length_cons, ints, List.map_cons, List.append_assoc, List.cons_append, List.nil_append]
          rw [show x + (r.length + 1) = x + 1 + r.length by omega]
        rw [e]
        refine hstep _ _ h1 fun k => ?_
        rw [spec_tyRead.j1, if_pos rfl, if_pos (by omega), if_pos (by omega), hb, tyIs_eq, hcb, Option.bind_some, if_pos rfl, if_pos (by omega), hw1, hw2]
      · have e : tellR (rr (rows 47 (b :: l)) x w h cs) = failT := by
          rw [e2, rr, if_neg (fun h3 => by have h4 := h3.1; simp [hcb] at h4)]
          rfl
        rw [e]
        refine hstep (fun _ => some failT) _ (Ev.const rfl) fun k => ?_
        rw [spec_tyRead.j1, if_pos rfl, if_pos (by omega), if_pos (by omega), hb, tyIs_eq, Bool.eq_false_iff.2 hcb, Option.bind_some, if_neg (by decide)]
        rfl
theorem rr_more (w : Nat) (hw : w ≠ 0) : ∀ (rs : List (List UInt8)) (h : Nat) (cs : List Int), 0 < h → rr rs 0 w h cs = if evenRows w rs then some (w, h + rs.length, cs ++ ints rs.flatten) else none
  | [], h, cs, hh => by
    rw [if_pos (show evenRows w [] from fun r hr => by simp at hr)]
    simp [rr, ints]
  | r :: rs, h, cs, hh => by
    have ih := rr_more w hw rs (h + 1) (cs ++ ints r) (by omega)
    unfold rr
    rw [ite_iff (evenRows_cons w r rs)]
    by_cases hc : r.length = w ∧ r.all isCellB = true
    · rw [if_pos ⟨hc.2, by omega, Or.inr (by omega)⟩, Nat.zero_add, hc.1, ih]
      by_cases h2 : evenRows w rs
      · rw [if_pos h2, if_pos ⟨⟨rfl, hc.2⟩, h2⟩]
        simp only [List.length_cons, List.flatten_cons, ints_append, List.append_assoc]
        rw [show h + 1 + rs.length = h + (rs.length + 1) by omega]
      · rw [if_neg h2, if_neg fun h3 => h2 h3.2]
    · rw [if_neg (fun h3 => hc ⟨by have := h3.2.2; omega, h3.1⟩), if_neg fun h3 => hc h3.1]
theorem rr_all (rs : List (List UInt8)) (hn : rs ≠ []) : rr rs 0 0 0 [] = if tw rs ≠ 0 ∧ evenRows (tw rs) rs then some (tw rs, rs.length, ints rs.flatten) else none := by
  rcases rs with _ | ⟨r, rs⟩
  · exact absurd rfl hn
  · have e : tw (r :: rs) = r.length := rfl
    unfold rr
    rw [e]
    by_cases hc : r.all isCellB = true ∧ r.length ≠ 0
    · rw [if_pos ⟨hc.1, by omega, Or.inl rfl⟩, Nat.zero_add, rr_more r.length hc.2 rs 1 _ (by omega)]
      rw [ite_iff (evenRows_cons r.length r rs |> fun h => show evenRows r.length rs ↔ r.length ≠ 0 ∧ evenRows r.length (r :: rs) from ⟨fun h2 => ⟨hc.2, h.2 ⟨⟨rfl, hc.1⟩, h2⟩⟩, fun h2 => (h.1 h2.2).2⟩)]
      simp only [List.length_cons, List.flatten_cons, ints_append, List.nil_append]
      rw [show 1 + rs.length = rs.length + 1 by omega]
    · rw [if_neg (fun h3 => hc ⟨h3.1, by have := h3.2.1; omega⟩), if_neg fun h3 => hc ⟨((evenRows_cons _ _ _).1 h3.2).1.2, h3.1⟩]
theorem tyRead_ev (s : ByteArray) : Ev (fun k => spec_tyRead.f k s) (tellT (trayOf s)) := by
  by_cases hs : s.size ≤ 42
  · have h1 := ty_l0 s hs s.data.toList 0 0 0 0 [] rfl (by omega) (by omega) (by omega) (by simp)
    have e : tellR (rr (rows 47 s.data.toList) 0 0 0 []) = tellT (trayOf s) := by
      rw [rr_all _ (rows_ne 47 _)]
      unfold trayOf trayRows
      have h2 := evenRows_flat (tw (rows 47 s.data.toList)) (rows 47 s.data.toList)
      generalize rows 47 s.data.toList = rs at h2 ⊢
      by_cases hc : tw rs ≠ 0 ∧ evenRows (tw rs) rs
      · rw [if_pos hc]
        have h3 := h2 hc.2
        show (if _ then _ else _) = _
        rw [ite_iff (show ((tw rs ≤ 7 ∧ rs.length ≤ 7 ∧ (ints rs.flatten).length ≤ 36) ∧ namedOK (ints rs.flatten)) ↔ okRows rs by
          rw [ints_length, h3]
          exact ⟨fun h => ⟨⟨by omega, h.1⟩, hc.2, h.2⟩, fun h => ⟨h.1.2, h.2.2⟩⟩)]
        by_cases h4 : okRows rs
        · rw [if_pos h4, if_pos h4]
          rfl
        · rw [if_neg h4, if_neg h4]
          rfl
      · rw [if_neg hc, if_neg (fun h => hc ⟨by have := h.1.1; omega, h.2.1⟩)]
        rfl
    rw [← e]
    refine Ev.congr h1 fun k => ?_
    rw [spec_tyRead.f, if_neg (by omega)]
    rfl
  · have e : trayOf s = none := by
      rcases h : trayOf s with _ | t
      · rfl
      · exact absurd (trayOf_small s (by rw [h]; exact fun e => nomatch e)) hs
    rw [e]
    refine Ev.congr (Ev.const (o := some failT) rfl) fun k => ?_
    rw [spec_tyRead.f, if_pos (by omega)]
    rfl
end Go.Proofs.YtbplbbialcbceaaDoor.Q
