/- Texts of this claim, joined. -/
import Derived.Test.YtkjlfgceodindaaDoorJWordToOne01
import Derived.Lib.SlTrimSet
set_option linter.unusedVariables false
set_option linter.unusedSimpArgs false
set_option linter.unusedSectionVars false
section
namespace Go.Proofs.YtkjlfgceodindaaDoor.Q
open Go.RowKit Go.Proofs.YtkjlfgceodindaaDoorW.PrintWords Go.Proofs.YtkjlfgceodindaaDoorW.PrintLast Go.Proofs.YtkjlfgceodindaaDoorW.PrintMore
def Ev {α : Type} (g : Nat → Option α) (r : α) : Prop := ∃ k0, ∀ k, k0 ≤ k → g k = some r
theorem Ev.step {α : Type} {g g' : Nat → Option α} {r : α} (h : Ev g' r) (e : ∀ k, g (k + 1) = g' k) : Ev g r := by
 obtain ⟨k0, h⟩ := h
 refine ⟨k0 + 1, fun k hk => ?_⟩
 obtain ⟨m, rfl⟩ : ∃ m, k = m + 1 := ⟨k - 1, by omega⟩
 rw [e]
 exact h m (by omega)
theorem Ev.congr {α : Type} {g g' : Nat → Option α} {r : α} (h : Ev g' r) (e : ∀ k, g k = g' k) : Ev g r := by
 obtain ⟨k0, h⟩ := h
 exact ⟨k0, fun k hk => (e k).trans (h k hk)⟩
theorem Ev.const {α : Type} {o : Option α} {r : α} (h : o = some r) : Ev (fun _ => o) r := ⟨0, fun _ _ => h⟩
theorem Ev.bind {α β : Type} {g : Nat → Option α} {f : Nat → α → Option β} {a : α} {r : β} (h1 : Ev g a) (h2 : Ev (fun k => f k a) r) : Ev (fun k => (g k).bind (f k)) r := by
 obtain ⟨k1, h1⟩ := h1;obtain ⟨k2, h2⟩ := h2
 refine ⟨max k1 k2, fun k hk => ?_⟩
 show (g k).bind (f k) = some r
 rw [h1 k (by omega)]
 exact h2 k (by omega)
theorem Ev.of_mono {α : Type} {g : Nat → Option α} {r : α} (hm : ∀ k, LeO (g k) (g (k + 1))) (k0 : Nat) (h : g k0 = some r) : Ev g r := by
 refine ⟨k0, fun k hk => ?_⟩
 obtain ⟨d, rfl⟩ : ∃ d, k = k0 + d := ⟨k - k0, by omega⟩;clear hk
 induction d with
 | zero => exact h
 | succ d ih => exact hm _ _ ih
theorem Ev.out {α : Type} {g : Nat → Option α} {r : α} (h : Ev g r) : ∃ k, g k = some r := by
 obtain ⟨k, h⟩ := h
 exact ⟨k, h k (Nat.le_refl _)⟩
theorem ite_iff {p q : Prop} [Decidable p] [Decidable q] {α : Type} {x y : α} (h : p ↔ q) : (if p then x else y) = if q then x else y := by
 by_cases hq : q
 ·rw [if_pos hq, if_pos (h.2 hq)]
 ·rw [if_neg hq, if_neg fun hp => hq (h.1 hp)]
theorem w64 {n : Int} (h0 : -9223372036854775808 ≤ n) (h1 : n < 9223372036854775808) : wrap64 n = n := by unfold wrap64; omega
def cellSet : List UInt8 := [35, 46, 111, 97, 98, 99, 100, 101, 102]
def isCellB (b : UInt8) : Bool := cellSet.contains b
def ints (l : List UInt8) : List Int := l.map fun b => (b.toNat : Int)
theorem tyIs_eq (b : UInt8) : spec_tyIs.f (b.toNat : Int) = some (isCellB b) := by
 have h : ∀ n : Fin 256, spec_tyIs.f (n.val : Int) = some (isCellB (UInt8.ofNat n.val)) := by decide +kernel
 have h2 := h ⟨b.toNat, b.toNat_lt⟩
 simpa using h2
theorem ints_length (l : List UInt8) : (ints l).length = l.length := by simp [ints]
theorem ints_append (l m : List UInt8) : ints (l ++ m) = ints l ++ ints m := by simp [ints]
theorem ints_count (c : UInt8) : ∀ l : List UInt8, (ints l).count (c.toNat : Int) = l.count c
 | [] => rfl
 | b :: l => by
  have ih := ints_count c l
  by_cases e : b = c
  ·subst e
   rw [List.count_cons_self, ← ih]
   exact List.count_cons_self
  ·rw [List.count_cons_of_ne e, ← ih]
   refine List.count_cons_of_ne ?_
   intro e2;have e3 : (b.toNat : Int) = (c.toNat : Int) := e2
   exact e (UInt8.toNat_inj.1 (by omega))
def namedOK (cs : List Int) : Prop := ∀ c : Int, 97 ≤ c → c ≤ 102 → cs.count c ≤ 1
instance (cs : List Int) : Decidable (namedOK cs) :=
 decidable_of_iff (∀ n : Fin 6, cs.count (97 + (n.val : Int)) ≤ 1) ⟨fun h c h1 h2 => by
  have h3 : cs.count (97 + ((c - 97).toNat : Int)) ≤ 1 := h ⟨(c - 97).toNat, by omega⟩
  rw [show (97 + ((c - 97).toNat : Int)) = c by omega] at h3
  exact h3, fun h n => h _ (by omega) (by omega)⟩
theorem namedOK_nil : namedOK [] := fun c _ _ => by simp
theorem namedOK_snoc (cs : List Int) (x : Int) (h : namedOK cs) : namedOK (cs ++ [x]) ↔ ¬ (97 ≤ x ∧ x ≤ 102 ∧ x ∈ cs) := by
 constructor
 ·intro h2 ⟨h3, h4, h5⟩
  have := h2 x h3 h4;have h6 : 0 < cs.count x := List.count_pos_iff.2 h5
  rw [List.count_append, List.count_singleton_self] at this
  omega
 ·intro h2 c h3 h4
  rw [List.count_append]
  by_cases e : x = c
  ·subst e
   have : cs.count x = 0 := List.count_eq_zero.2 fun h5 => h2 ⟨h3, h4, h5⟩
   rw [this, List.count_singleton_self]
   omega
  ·have h5 := h c h3 h4
   have : [x].count c = 0 := by
    rw [List.count_eq_zero]
    simp
    exact fun e2 => e e2.symm
   omega
theorem namedOK_take (cs : List Int) (i : Nat) (h : namedOK cs) : namedOK (cs.take i) := fun c h1 h2 =>
 Nat.le_trans ((List.take_sublist i cs).count_le c) (h c h1 h2)
theorem rows_size (c : UInt8) : ∀ l, (rows c l).flatten.length + (rows c l).length = l.length + 1
 | [] => by simp [rows]
 | b :: l => by
  have ih := rows_size c l;unfold rows
  split
  ·simp only [List.flatten_cons, List.nil_append, List.length_cons]; omega
  ·split
   ·rename_i e; exact absurd e (rows_ne c l)
   ·rename_i r rs e
    rw [e] at ih
    simp only [List.flatten_cons, List.length_append, List.length_cons] at ih ⊢
    omega
theorem rows_count (c d : UInt8) (hd : d ≠ c) : ∀ l, (rows c l).flatten.count d = l.count d
 | [] => by simp [rows]
 | b :: l => by
  have ih := rows_count c d hd l;unfold rows
  split
  ·rename_i e
   subst e
   rw [List.flatten_cons, List.nil_append, ih, List.count_cons_of_ne (Ne.symm hd)]
  ·split
   ·rename_i e; exact absurd e (rows_ne c l)
   ·rename_i r rs e
    rw [e] at ih
    rw [List.flatten_cons] at ih ⊢
    rw [List.cons_append, List.count_cons, ih, List.count_cons]
def tw (rs : List (List UInt8)) : Nat := (rs.headD []).length
def evenRows (w : Nat) (rs : List (List UInt8)) : Prop := ∀ r ∈ rs, r.length = w ∧ r.all isCellB = true
instance (w : Nat) (rs : List (List UInt8)) : Decidable (evenRows w rs) := inferInstanceAs (Decidable (∀ r ∈ rs, _))
theorem evenRows_cons (w : Nat) (r : List UInt8) (rs : List (List UInt8)) : evenRows w (r :: rs) ↔ (r.length = w ∧ r.all isCellB = true) ∧ evenRows w rs := by
 unfold evenRows
 simp only [List.mem_cons, forall_eq_or_imp]
theorem evenRows_flat (w : Nat) : ∀ rs, evenRows w rs → rs.flatten.length = w * rs.length
 | [], _ => by simp
 | r :: rs, h => by
  have h2 := (evenRows_cons w r rs).1 h
  rw [List.flatten_cons, List.length_append, evenRows_flat w rs h2.2, h2.1.1, List.length_cons, Nat.mul_add, Nat.mul_one]
  omega
def okRows (rs : List (List UInt8)) : Prop := (1 ≤ tw rs ∧ tw rs ≤ 7 ∧ rs.length ≤ 7 ∧ tw rs * rs.length ≤ 36) ∧ evenRows (tw rs) rs ∧ namedOK (ints rs.flatten)
instance (rs : List (List UInt8)) : Decidable (okRows rs) := inferInstanceAs (Decidable (_ ∧ _ ∧ _))
def trayRows (rs : List (List UInt8)) : Option (Int × Int × List Int) := if okRows rs then some (tw rs, rs.length, ints rs.flatten) else none
def trayOf (s : ByteArray) : Option (Int × Int × List Int) := trayRows (rows 47 s.data.toList)
theorem trayOf_small (s : ByteArray) (h : trayOf s ≠ none) : s.size ≤ 42 := by
 unfold trayOf trayRows at h
 split at h
 ·rename_i hk
  have h1 := rows_size 47 s.data.toList;have h2 := evenRows_flat _ _ hk.2.1;have h3 := data_length s;have := hk.1
  omega
 ·exact absurd rfl h
def failT : Int × Int × List Int × Bool := (0, 0, [], false)
def tellT : Option (Int × Int × List Int) → Int × Int × List Int × Bool
 | none => failT
 | some (w, h, cs) => (w, h, cs, true)
theorem ty_l2 (cs pre : List Int) (i w h : Int) (x : Int) (K : Int × Int × List Int × Bool) (hl : pre.length ≤ 36)
  (hK : Ev (fun k => spec_tyRead.l1 k cs cs.length (wrap64 (i + 1)) w h cs) K) :
  ∀ (m j : Nat), j + m = pre.length → Ev (fun k => spec_tyRead.l2 k x cs cs.length i pre pre.length j w h cs) (if 97 ≤ x ∧ x ≤ 102 ∧ x ∈ pre.drop j then failT else K)
 | 0, j, hj => by
  refine Ev.step (g' := fun k => spec_tyRead.l1 k cs cs.length (wrap64 (i + 1)) w h cs) ?_ (fun k => ?_)
  ·rw [List.drop_eq_nil_of_le (by omega), if_neg (by simp)]
   exact hK
  ·rw [spec_tyRead.l2, if_neg (by omega)]
 | m + 1, j, hj => by
  have ih := ty_l2 cs pre i w h x K hl hK m (j + 1) (by omega)
  have hlt : j < pre.length := by omega
  have hd : pre.drop j = pre[j] :: pre.drop (j + 1) := List.drop_eq_getElem_cons hlt
  have hr : rd pre (j : Int) = pre[j] := by
   unfold rd
   rw [Int.toNat_natCast, List.getD_eq_getElem?_getD, List.getElem?_eq_getElem hlt]
   rfl
  have hw : wrap64 ((j : Int) + 1) = ((j + 1 : Nat) : Int) := by rw [w64 (by omega) (by omega)]; omega
  rw [hd]
  by_cases hx : x = pre[j] ∧ 97 ≤ x ∧ x ≤ 102
  ·rw [if_pos ⟨hx.2.1, hx.2.2, by rw [hx.1]; exact List.mem_cons_self⟩]
   refine Ev.step (Ev.const (o := some failT) rfl) (fun k => ?_)
   rw [spec_tyRead.l2, if_pos (by omega), if_pos (by omega), if_pos (by omega), hr, if_pos hx.1, if_pos (by omega), if_pos (by omega)]
   rfl
  ·have e : (97 ≤ x ∧ x ≤ 102 ∧ x ∈ pre[j] :: pre.drop (j + 1)) ↔ (97 ≤ x ∧ x ≤ 102 ∧ x ∈ pre.drop (j + 1)) := by
    constructor
    ·rintro ⟨h1, h2, h3⟩
     refine ⟨h1, h2, (List.mem_cons.1 h3).resolve_left fun e => hx ⟨e, h1, h2⟩⟩
    ·rintro ⟨h1, h2, h3⟩
     exact ⟨h1, h2, List.mem_cons_of_mem _ h3⟩
   rw [ite_iff e]
   refine Ev.step ih (fun k => ?_)
   rw [spec_tyRead.l2, if_pos (by omega), if_pos (by omega), if_pos (by omega), hr, hw]
   by_cases h1 : x = pre[j]
   ·rw [if_pos h1]
    by_cases h2 : x ≥ 97
    ·rw [if_pos h2, if_neg (fun h3 => hx ⟨h1, h2, h3⟩)]
    ·rw [if_neg h2]
   ·rw [if_neg h1]
theorem ty_l2_hit (cs pre : List Int) (i w h x : Int) (hl : pre.length ≤ 36) (h1 : 97 ≤ x) (h2 : x ≤ 102) :
  ∀ (m j : Nat), j + m = pre.length → x ∈ pre.drop j → Ev (fun k => spec_tyRead.l2 k x cs cs.length i pre pre.length j w h cs) failT
 | 0, j, hj, hx => by
  rw [List.drop_eq_nil_of_le (by omega)] at hx
  exact absurd hx (by simp)
 | m + 1, j, hj, hx => by
  have hlt : j < pre.length := by omega
  have hd : pre.drop j = pre[j] :: pre.drop (j + 1) := List.drop_eq_getElem_cons hlt
  have hr : rd pre (j : Int) = pre[j] := by
   unfold rd
   rw [Int.toNat_natCast, List.getD_eq_getElem?_getD, List.getElem?_eq_getElem hlt]
   rfl
  have hw : wrap64 ((j : Int) + 1) = ((j + 1 : Nat) : Int) := by rw [w64 (by omega) (by omega)]; omega
  by_cases hp : x = pre[j]
  ·refine Ev.step (Ev.const (o := some failT) rfl) (fun k => ?_)
   rw [spec_tyRead.l2, if_pos (by omega), if_pos (by omega), if_pos (by omega), hr, if_pos hp, if_pos (by omega), if_pos (by omega)]
   rfl
  ·rw [hd] at hx
   refine Ev.step (ty_l2_hit cs pre i w h x hl h1 h2 m (j + 1) (by omega) ((List.mem_cons.1 hx).resolve_left hp)) (fun k => ?_)
   rw [spec_tyRead.l2, if_pos (by omega), if_pos (by omega), if_pos (by omega), hr, hw, if_neg hp]
theorem ty_l1 (cs : List Int) (w h : Int) (hl : cs.length ≤ 36) :
  ∀ (m i : Nat), i + m = cs.length → namedOK (cs.take i) → Ev (fun k => spec_tyRead.l1 k cs cs.length i w h cs) (if namedOK cs then (w, h, cs, true) else failT)
 | 0, i, hi, hn => by
  have e : cs.take i = cs := List.take_of_length_le (by omega)
  rw [e] at hn
  rw [if_pos hn]
  refine Ev.step (Ev.const (o := some (w, h, cs, true)) rfl) (fun k => ?_)
  rw [spec_tyRead.l1, if_neg (by omega)]
 | m + 1, i, hi, hn => by
  have hlt : i < cs.length := by omega
  have hr : rd cs (i : Int) = cs[i] := by
   unfold rd
   rw [Int.toNat_natCast, List.getD_eq_getElem?_getD, List.getElem?_eq_getElem hlt]
   rfl
  have hw : wrap64 ((i : Int) + 1) = ((i + 1 : Nat) : Int) := by rw [w64 (by omega) (by omega)]; omega
  have ht : cs.take (i + 1) = cs.take i ++ [cs[i]] := List.take_succ_eq_append_getElem hlt;have hs := namedOK_snoc (cs.take i) cs[i] hn
  have hpl : (cs.take i).length ≤ 36 := by rw [List.length_take]; omega
  have hb : ∀ K, Ev (fun k => spec_tyRead.l1 k cs cs.length (wrap64 ((i : Int) + 1)) w h cs) K →
    Ev (fun k => spec_tyRead.l1 k cs cs.length i w h cs) (if 97 ≤ cs[i] ∧ cs[i] ≤ 102 ∧ cs[i] ∈ cs.take i then failT else K) := by
   intro K hK;have h2 := ty_l2 cs (cs.take i) i w h cs[i] K hpl hK (cs.take i).length 0 (by omega)
   refine Ev.step h2 (fun k => ?_)
   rw [spec_tyRead.l1, if_pos (by omega), if_pos (by omega), if_pos (by omega), if_pos (by omega), hr]
   simp only [Option.bind_some, Int.toNat_natCast]
   rfl
  by_cases hc : 97 ≤ cs[i] ∧ cs[i] ≤ 102 ∧ cs[i] ∈ cs.take i
  ·have h3 : ¬ namedOK cs := fun h4 => by
    have h5 := namedOK_take cs (i + 1) h4
    rw [ht] at h5
    exact hs.1 h5 hc
   rw [if_neg h3]
   -- the tail's answer does not matter: the inner walk fails first
   refine Ev.step (g' := fun k => spec_tyRead.l2 k cs[i] cs cs.length i (cs.take i) (cs.take i).length 0 w h cs) ?_ (fun k => ?_)
   ·exact ty_l2_hit cs (cs.take i) i w h cs[i] hpl hc.1 hc.2.1 (cs.take i).length 0 (by omega) hc.2.2
   ·rw [spec_tyRead.l1, if_pos (by omega), if_pos (by omega), if_pos (by omega), if_pos (by omega), hr]
    simp only [Option.bind_some, Int.toNat_natCast]
  ·have h4 := ty_l1 cs w h hl m (i + 1) (by omega) (by rw [ht]; exact hs.2 hc)
   rw [← hw] at h4
   have h5 := hb _ h4
   rwa [if_neg hc] at h5
def rr : List (List UInt8) → Nat → Nat → Nat → List Int → Option (Nat × Nat × List Int)
 | [], _, w, h, cs => some (w, h, cs)
 | r :: rs, x, w, h, cs => if r.all isCellB = true ∧ x + r.length ≠ 0 ∧ (h = 0 ∨ x + r.length = w) then rr rs 0 (x + r.length) (h + 1) (cs ++ ints r) else none
def tellR : Option (Nat × Nat × List Int) → Int × Int × List Int × Bool
 | none => failT
 | some (w, h, cs) => if (w ≤ 7 ∧ h ≤ 7 ∧ cs.length ≤ 36) ∧ namedOK cs then (w, h, cs, true) else failT
theorem ty_end (s : ByteArray) (w h : Nat) (cs : List Int) (i x : Int) (hi : ¬ i ≤ (s.size : Int)) : Ev (fun k => spec_tyRead.l0 k s x i w h cs) (tellR (some (w, h, cs))) := by
 by_cases hc : w ≤ 7 ∧ h ≤ 7 ∧ cs.length ≤ 36
 ·have h1 := ty_l1 cs w h hc.2.2 cs.length 0 (by omega) (by simpa using namedOK_nil)
  have e : tellR (some (w, h, cs)) = if namedOK cs then ((w : Int), (h : Int), cs, true) else failT := by
   unfold tellR
   exact ite_iff ⟨fun h2 => h2.2, fun h2 => ⟨hc, h2⟩⟩
  rw [e]
  refine Ev.step (g' := fun k => spec_tyRead.j2 k false w h cs) (Ev.step h1 fun k => ?_) (fun k => ?_)
  ·rw [spec_tyRead.j2, if_neg (by decide)]
   rfl
  ·rw [spec_tyRead.l0, if_neg hi, if_neg (by omega), if_neg (by omega), show decide ((cs.length : Int) > 36) = false from decide_eq_false (by omega)]
 ·have e : tellR (some (w, h, cs)) = failT := if_neg fun h2 => hc h2.1
  rw [e]
  refine Ev.step (g' := fun k => spec_tyRead.j2 k true w h cs) (Ev.step (Ev.const (o := some failT) rfl) fun k => ?_) (fun k => ?_)
  ·rw [spec_tyRead.j2, if_pos rfl]
   rfl
  ·rw [spec_tyRead.l0, if_neg hi]
   by_cases h1 : (w : Int) > 7
   ·rw [if_pos h1]
   ·rw [if_neg h1]
    by_cases h2 : (h : Int) > 7
    ·rw [if_pos h2]
    ·rw [if_neg h2, show decide ((cs.length : Int) > 36) = true from decide_eq_true (by omega)]
theorem ty_row (s : ByteArray) (x w h i : Nat) (cs : List Int) (hh : h ≤ 42) (hi : i ≤ 42) (K : Int × Int × List Int × Bool) (hK : Ev (fun k => spec_tyRead.l0 k s 0 ((i + 1 : Nat) : Int) x ((h + 1 : Nat) : Int) cs) K) :
  Ev (fun k => spec_tyRead.j1 k s x i false w h cs) (if x ≠ 0 ∧ (h = 0 ∨ x = w) then K else failT) := by
 have hw1 : wrap64 ((i : Int) + 1) = ((i + 1 : Nat) : Int) := by rw [w64 (by omega) (by omega)]; omega
 have hw2 : wrap64 ((h : Int) + 1) = ((h + 1 : Nat) : Int) := by rw [w64 (by omega) (by omega)]; omega
 by_cases hc : x ≠ 0 ∧ (h = 0 ∨ x = w)
 ·rw [if_pos hc]
  refine Ev.step hK fun k => ?_
  rw [spec_tyRead.j1, if_neg (by decide), hw1, hw2]
  by_cases h1 : (h : Int) > 0
  ·rw [if_pos h1, if_pos (by omega), if_neg (by omega)]
  ·rw [if_neg h1, if_neg (by omega)]
 ·rw [if_neg hc]
  refine Ev.step (Ev.const (o := some failT) rfl) fun k => ?_
  rw [spec_tyRead.j1, if_neg (by decide)]
  by_cases h1 : (h : Int) > 0
  ·rw [if_pos h1]
   by_cases h2 : (x : Int) = w
   ·rw [if_pos h2, if_pos (by omega)]
    rfl
   ·rw [if_neg h2]
    rfl
  ·rw [if_neg h1, if_pos (by omega)]
   rfl
theorem bt_drop (s : ByteArray) (i : Nat) (b : UInt8) (l : List UInt8) (h : s.data.toList.drop i = b :: l) : bt s (i : Int) = b.toNat ∧ i < s.size ∧ s.data.toList.drop (i + 1) = l := by
 have h1 : i < s.data.toList.length := by
  rcases Nat.lt_or_ge i s.data.toList.length with h2 | h2
  ·exact h2
  ·rw [List.drop_eq_nil_of_le h2] at h
   cases h
 have h2 := List.drop_eq_getElem_cons h1
 rw [h] at h2
 injection h2 with h3 h4
 have hlt : i < s.size := by rw [← data_length]; exact h1
 refine ⟨?_, hlt, h4.symm⟩
 rw [← rd_bytesOf]
 unfold rd bytesOf
 rw [Int.toNat_natCast, List.getD_eq_getElem?_getD, List.getElem?_map, List.getElem?_eq_getElem h1, ← h3]
 rfl
theorem ty_l0 (s : ByteArray) (hs : s.size ≤ 42) : ∀ (rest : List UInt8) (i x w h : Nat) (cs : List Int), s.data.toList.drop i = rest → i ≤ s.size → x ≤ i → h ≤ i → cs.length ≤ i →
  Ev (fun k => spec_tyRead.l0 k s x i w h cs) (tellR (rr (rows 47 rest) x w h cs))
 | [], i, x, w, h, cs, hd, hi, hx, hh, hc => by
  have hle : i = s.size := by
   have : s.data.toList.length ≤ i := List.drop_eq_nil_iff.1 hd
   rw [data_length] at this
   omega
  subst hle;have h1 := ty_end s x (h + 1) cs ((s.size + 1 : Nat) : Int) 0 (by omega);have h2 := ty_row s x w h s.size cs (by omega) (by omega) _ h1
  have e : tellR (rr (rows 47 []) x w h cs) = if x ≠ 0 ∧ (h = 0 ∨ x = w) then tellR (some (x, h + 1, cs)) else failT := by
   simp only [rows, rr, List.all_nil, true_and, List.length_nil, Nat.add_zero, ints, List.map_nil, List.append_nil]
   by_cases hc : x ≠ 0 ∧ (h = 0 ∨ x = w)
   ·rw [if_pos hc, if_pos hc]
   ·rw [if_neg hc, if_neg hc]
    rfl
  rw [e]
  refine Ev.step h2 fun k => ?_
  rw [spec_tyRead.l0, if_pos (by omega), if_neg (by omega)]
 | b :: l, i, x, w, h, cs, hd, hi, hx, hh, hc => by
  obtain ⟨hb, hlt, hd2⟩ := bt_drop s i b l hd
  have hw1 : wrap64 ((i : Int) + 1) = ((i + 1 : Nat) : Int) := by rw [w64 (by omega) (by omega)]; omega
  have hw2 : wrap64 ((x : Int) + 1) = ((x + 1 : Nat) : Int) := by rw [w64 (by omega) (by omega)]; omega
  by_cases h47 : b = 47
  ·subst h47
   have h1 := ty_l0 s hs l (i + 1) 0 x (h + 1) cs hd2 (by omega) (by omega) (by omega) (by omega);have h2 := ty_row s x w h i cs (by omega) (by omega) _ h1
   have e : tellR (rr (rows 47 (47 :: l)) x w h cs) = if x ≠ 0 ∧ (h = 0 ∨ x = w) then tellR (rr (rows 47 l) 0 x (h + 1) cs) else failT := by
    rw [rows, if_pos rfl]
    simp only [rr, List.all_nil, true_and, List.length_nil, Nat.add_zero, ints, List.map_nil, List.append_nil]
    by_cases hc : x ≠ 0 ∧ (h = 0 ∨ x = w)
    ·rw [if_pos hc, if_pos hc]
    ·rw [if_neg hc, if_neg hc]
     rfl
   rw [e]
   refine Ev.step h2 fun k => ?_
   rw [spec_tyRead.l0, if_pos (by omega), if_pos (by omega), if_pos (by omega), hb]
   rfl
  ·have hne : ((b.toNat : Int) != 47) = true := by
    rw [bne_iff_ne]
    intro e
    apply h47
    apply UInt8.toNat_inj.1
    show b.toNat = 47
    omega
   obtain ⟨r, rs, e1⟩ : ∃ r rs, rows 47 l = r :: rs := by
    rcases e : rows 47 l with _ | ⟨r, rs⟩
    ·exact absurd e (rows_ne 47 l)
    ·exact ⟨r, rs, rfl⟩
   have e2 : rows 47 (b :: l) = (b :: r) :: rs := by rw [rows, if_neg h47, e1]
   have hstep : ∀ g : Nat → Option (Int × Int × List Int × Bool), ∀ K, Ev g K → (∀ k, spec_tyRead.j1 (k + 1) s x i true w h cs = g k) → Ev (fun k => spec_tyRead.l0 k s x i w h cs) K := by
    intro g K hg he
    refine Ev.step (g' := fun k => spec_tyRead.j1 k s x i true w h cs) (Ev.step hg he) fun k => ?_
    rw [spec_tyRead.l0, if_pos (by omega), if_pos (by omega), if_pos (by omega), hb, hne]
   by_cases hcb : isCellB b = true
   ·have h1 := ty_l0 s hs l (i + 1) (x + 1) w h (cs ++ [(b.toNat : Int)]) hd2 (by omega) (by omega) (by omega) (by rw [List.length_append]; simp; omega)
    have e : rr (rows 47 (b :: l)) x w h cs = rr (rows 47 l) (x + 1) w h (cs ++ [(b.toNat : Int)]) := by
     rw [e1, e2]
     simp only [rr, List.all_cons, hcb, Bool.true_and, List.length_cons, ints, List.map_cons, List.append_assoc, List.cons_append, List.nil_append]
     rw [show x + (r.length + 1) = x + 1 + r.length by omega]
    rw [e]
    refine hstep _ _ h1 fun k => ?_
    rw [spec_tyRead.j1, if_pos rfl, if_pos (by omega), if_pos (by omega), hb, tyIs_eq, hcb, Option.bind_some, if_pos rfl, if_pos (by omega), hw1, hw2]
   ·have e : tellR (rr (rows 47 (b :: l)) x w h cs) = failT := by
     rw [e2, rr, if_neg (fun h3 => by have h4 := h3.1; simp [hcb] at h4)]
     rfl
    rw [e]
    refine hstep (fun _ => some failT) _ (Ev.const rfl) fun k => ?_
    rw [spec_tyRead.j1, if_pos rfl, if_pos (by omega), if_pos (by omega), hb, tyIs_eq, Bool.eq_false_iff.2 hcb, Option.bind_some, if_neg (by decide)]
    rfl
theorem rr_more (w : Nat) (hw : w ≠ 0) : ∀ (rs : List (List UInt8)) (h : Nat) (cs : List Int), 0 < h → rr rs 0 w h cs = if evenRows w rs then some (w, h + rs.length, cs ++ ints rs.flatten) else none
 | [], h, cs, hh => by
  rw [if_pos (show evenRows w [] from fun r hr => by simp at hr)]
  simp [rr, ints]
 | r :: rs, h, cs, hh => by
  have ih := rr_more w hw rs (h + 1) (cs ++ ints r) (by omega);unfold rr
  rw [ite_iff (evenRows_cons w r rs)]
  by_cases hc : r.length = w ∧ r.all isCellB = true
  ·rw [if_pos ⟨hc.2, by omega, Or.inr (by omega)⟩, Nat.zero_add, hc.1, ih]
   by_cases h2 : evenRows w rs
   ·rw [if_pos h2, if_pos ⟨⟨rfl, hc.2⟩, h2⟩]
    simp only [List.length_cons, List.flatten_cons, ints_append, List.append_assoc]
    rw [show h + 1 + rs.length = h + (rs.length + 1) by omega]
   ·rw [if_neg h2, if_neg fun h3 => h2 h3.2]
  ·rw [if_neg (fun h3 => hc ⟨by have := h3.2.2; omega, h3.1⟩), if_neg fun h3 => hc h3.1]
theorem rr_all (rs : List (List UInt8)) (hn : rs ≠ []) : rr rs 0 0 0 [] = if tw rs ≠ 0 ∧ evenRows (tw rs) rs then some (tw rs, rs.length, ints rs.flatten) else none := by
 rcases rs with _ | ⟨r, rs⟩
 ·exact absurd rfl hn
 ·have e : tw (r :: rs) = r.length := rfl
  unfold rr
  rw [e]
  by_cases hc : r.all isCellB = true ∧ r.length ≠ 0
  ·rw [if_pos ⟨hc.1, by omega, Or.inl rfl⟩, Nat.zero_add, rr_more r.length hc.2 rs 1 _ (by omega)]
   rw [ite_iff (evenRows_cons r.length r rs |> fun h => show evenRows r.length rs ↔ r.length ≠ 0 ∧ evenRows r.length (r :: rs) from ⟨fun h2 => ⟨hc.2, h.2 ⟨⟨rfl, hc.1⟩, h2⟩⟩, fun h2 => (h.1 h2.2).2⟩)]
   simp only [List.length_cons, List.flatten_cons, ints_append, List.nil_append]
   rw [show 1 + rs.length = rs.length + 1 by omega]
  ·rw [if_neg (fun h3 => hc ⟨h3.1, by have := h3.2.1; omega⟩), if_neg fun h3 => hc ⟨((evenRows_cons _ _ _).1 h3.2).1.2, h3.1⟩]
theorem tyRead_ev (s : ByteArray) : Ev (fun k => spec_tyRead.f k s) (tellT (trayOf s)) := by
 by_cases hs : s.size ≤ 42
 ·have h1 := ty_l0 s hs s.data.toList 0 0 0 0 [] rfl (by omega) (by omega) (by omega) (by simp)
  have e : tellR (rr (rows 47 s.data.toList) 0 0 0 []) = tellT (trayOf s) := by
   rw [rr_all _ (rows_ne 47 _)]
   unfold trayOf trayRows;have h2 := evenRows_flat (tw (rows 47 s.data.toList)) (rows 47 s.data.toList);generalize rows 47 s.data.toList = rs at h2 ⊢
   by_cases hc : tw rs ≠ 0 ∧ evenRows (tw rs) rs
   ·rw [if_pos hc]
    have h3 := h2 hc.2
    show (if _ then _ else _) = _
    rw [ite_iff (show ((tw rs ≤ 7 ∧ rs.length ≤ 7 ∧ (ints rs.flatten).length ≤ 36) ∧ namedOK (ints rs.flatten)) ↔ okRows rs by
     rw [ints_length, h3]
     exact ⟨fun h => ⟨⟨by omega, h.1⟩, hc.2, h.2⟩, fun h => ⟨h.1.2, h.2.2⟩⟩)]
    by_cases h4 : okRows rs
    ·rw [if_pos h4, if_pos h4]
     rfl
    ·rw [if_neg h4, if_neg h4]
     rfl
   ·rw [if_neg hc, if_neg (fun h => hc ⟨by have := h.1.1; omega, h.2.1⟩)]
    rfl
  rw [← e]
  refine Ev.congr h1 fun k => ?_
  rw [spec_tyRead.f, if_neg (by omega)]
  rfl
 ·have e : trayOf s = none := by
   rcases h : trayOf s with _ | t
   ·rfl
   ·exact absurd (trayOf_small s (by rw [h]; exact fun e => nomatch e)) hs
  rw [e]
  refine Ev.congr (Ev.const (o := some failT) rfl) fun k => ?_
  rw [spec_tyRead.f, if_pos (by omega)]
  rfl
end Go.Proofs.YtkjlfgceodindaaDoor.Q
end
section
namespace Go.Proofs.YtkjlfgceodindaaDoor.Q
set_option linter.unusedSectionVars false
open Go.RowKit Go.Proofs.YtkjlfgceodindaaDoorW.PrintWords Go.Proofs.YtkjlfgceodindaaDoorW.PrintLast Go.Proofs.YtkjlfgceodindaaDoorW.PrintMore
def isB (a : Int) : Bool := decide (a = 111 ∨ (97 ≤ a ∧ a ≤ 102))
theorem tyBall_eq (a : Int) : spec_tyBall.f a = some (isB a) := by
 unfold spec_tyBall.f isB
 by_cases h1 : a = 111
 ·rw [if_pos h1, decide_eq_true (Or.inl h1)]
 ·rw [if_neg h1]
  by_cases h2 : a ≥ 97
  ·rw [if_pos h2]
   congr 1
   exact decide_eq_decide.2 (by omega)
  ·rw [if_neg h2, decide_eq_false (by omega)]
def bI (cs : List Int) (i : Int) : Bool := isB (rd cs i)
theorem rd_set (L : List Int) (a j v : Int) (ha : 0 ≤ a) (hl : a < L.length) (hj : 0 ≤ j) : rd (L.set a.toNat v) j = if j = a then v else rd L j := by
 unfold rd
 rw [List.getD_eq_getElem?_getD, List.getElem?_set, List.getD_eq_getElem?_getD]
 by_cases h : j = a
 ·subst h
  rw [if_pos rfl, if_pos rfl, if_pos (by omega)]
  rfl
 ·rw [if_neg h, if_neg (by omega)]
theorem rd_nat (L : List Int) (t : Nat) (h : t < L.length) : rd L (t : Int) = L[t] := by
 unfold rd
 rw [Int.toNat_natCast, List.getD_eq_getElem?_getD, List.getElem?_eq_getElem h]
 rfl
theorem nodup_len : ∀ (n : Nat) (q : List Int), q.Nodup → (∀ j ∈ q, 0 ≤ j ∧ j < n) → q.length ≤ n
 | 0, q, _, h => by
  rcases q with _ | ⟨a, q⟩
  ·simp
  ·have := h a List.mem_cons_self
   omega
 | n + 1, q, hq, h => by
  by_cases hm : (n : Int) ∈ q
  ·have h1 := nodup_len n (q.erase n) (hq.erase _) (fun j hj => by
    have h2 := (hq.mem_erase_iff).1 hj;have h3 := h j h2.2
    omega)
   rw [List.length_erase_of_mem hm] at h1
   omega
  ·have h1 := nodup_len n q hq (fun j hj => by
    have h3 := h j hj
    have : j ≠ n := fun e => hm (e ▸ hj)
    omega)
   omega
def emptyC (cs : List Int) : List Int := cs.map fun c => if isB c = true then 46 else c
theorem emptyC_rd (cs : List Int) (c : Nat) (hc : c < cs.length) : rd (emptyC cs) (c : Int) = if isB (rd cs (c : Int)) = true then 46 else rd cs (c : Int) := by
 unfold emptyC
 rw [rd_nat _ c (by simpa using hc), rd_nat cs c hc, List.getElem_map]
theorem isB_46 : isB 46 = false := by decide
theorem isB_35 : isB 35 = false := by decide
end Go.Proofs.YtkjlfgceodindaaDoor.Q
end
section
namespace Go.Proofs.YtkjlfgceodindaaDoor.Q
open Go.RowKit Go.Proofs.YtkjlfgceodindaaDoorW.PrintWords Go.Proofs.YtkjlfgceodindaaDoorW.PrintLast Go.Proofs.YtkjlfgceodindaaDoorW.PrintMore
attribute [local go_sem] max2_int min2_int max_two min_two max_three min_three max_four min_four
set_option linter.unusedVariables false
set_option linter.unusedSimpArgs false
def spec_l1In.f (a0 : Int) (a1 : Int) (a2 : Int) : Option (Bool) := if a0 ≥ a1 then (some (decide (a0 ≤ a2))) else (some false)
set_option maxHeartbeats 8000000 in
set_option maxRecDepth 100000 in
theorem spec_l1In.calls (a0 : Int) (a1 : Int) (a2 : Int) (r : Bool) (w : World) (h : spec_l1In.f a0 a1 a2 = some r) :
  Calls Tryd.prog 93 #[.int .i64 a0, .int .i64 a1, .int .i64 a2] w fun e w' => e = .returned (.bool r) ∧ Drawn0 w w' := by
 have H : (if a0 ≥ a1 then (some (decide (a0 ≤ a2))) else (some false)) = some r := h;clear h
 by_cases c4 : a0 ≥ a1
 ·rw [if_pos c4] at H
  have c4b0 : decide (a1 ≤ a0) = true := decide_eq_true c4;clear c4;obtain rfl := Option.some.inj H
  go_enter Tryd.func93, Tryd.ntmps93
  go_wp2
  go_ret
  exact ⟨by first | rfl | (simp; done) | (simp [*]; done), by repeat (first | exact Drawn0.refl _ | apply Drawn0.step)⟩
 ·rw [if_neg c4] at H
  have c4b0 : decide (a1 ≤ a0) = false := decide_eq_false c4;clear c4;obtain rfl := Option.some.inj H
  go_enter Tryd.func93, Tryd.ntmps93
  go_wp2
  go_ret
  exact ⟨by first | rfl | (simp; done) | (simp [*]; done), by repeat (first | exact Drawn0.refl _ | apply Drawn0.step)⟩
end Go.Proofs.YtkjlfgceodindaaDoor.Q
end
section
namespace Go.Proofs.YtkjlfgceodindaaDoor.Q
open Go.RowKit Go.Proofs.YtkjlfgceodindaaDoorW.PrintWords Go.Proofs.YtkjlfgceodindaaDoorW.PrintLast Go.Proofs.YtkjlfgceodindaaDoorW.PrintMore
attribute [local go_sem] max2_int min2_int max_two min_two max_three min_three max_four min_four
set_option linter.unusedVariables false
set_option linter.unusedSimpArgs false
def spec_tyCell.f (a0_0 : Int) (a0_1 : Int) (l0_2 : List Int) (a1 : Int) (a2 : Int) : Option (Bool) := (spec_l1In.f a1 0 (wrap64 (a0_0 - 1))).bind fun t102 => (if t102 = true then ((spec_l1In.f a2 0 (wrap64 (a0_1 - 1))).bind fun t103 => (some t103)) else (some false))
set_option maxHeartbeats 8000000 in
set_option maxRecDepth 100000 in
theorem spec_tyCell.calls (a0_0 : Int) (a0_1 : Int) (A0_2 : Option Addr) (c0_2 : Nat) (l0_2 : List Int) (a1 : Int) (a2 : Int) (r : Bool) (w : World) (hr0_2 : Kd.C (Kd.int .u8) w A0_2 l0_2.length l0_2) (hc0_2 : l0_2.length ≤ c0_2) (h : spec_tyCell.f a0_0 a0_1 l0_2 a1 a2 = some r) :
  Calls Tryd.prog 79 #[.agg #[.int .i64 a0_0, .int .i64 a0_1, .slice A0_2 l0_2.length c0_2], .int .i64 a1, .int .i64 a2] w fun e w' => e = .returned (.bool r) ∧ Below w.heap.size w w' := by
 have hu30 := Tryd.underlying30;have HR0_2 := Aside0.mk hr0_2;have HC0_2 := Aside0.mk hc0_2;clear hr0_2 hc0_2;have HB := Aside0.mk (Below.refl w.heap.size w);have H : ((spec_l1In.f a1 0 (wrap64 (a0_0 - 1))).bind fun t102 => (if t102 = true then ((spec_l1In.f a2 0 (wrap64 (a0_1 - 1))).bind fun t103 => (some t103)) else (some false))) = some r := h;clear h;replace H := Option.bind_eq_some_iff.mp H;obtain ⟨t102, A40, H⟩ := H;replace H : (if t102 = true then ((spec_l1In.f a2 0 (wrap64 (a0_1 - 1))).bind fun t103 => (some t103)) else (some false)) = some r := H;have A4 := Aside0.mk A40;clear A40
 by_cases c5 : t102 = true
 ·subst c5
  have H1 : ((spec_l1In.f a2 0 (wrap64 (a0_1 - 1))).bind fun t103 => (some t103)) = some r := by rw [if_pos rfl] at H; exact H
  clear H;have H := H1;clear H1;replace H := Option.bind_eq_some_iff.mp H;obtain ⟨t103, A60, H⟩ := H;replace H : (some t103) = some r := H;have A6 := Aside0.mk A60;clear A60;obtain rfl := Option.some.inj H
  go_enter Tryd.func79, Tryd.ntmps79
  go_wp2_with (first | ((with_reducible refine gate_dst (N := 3) rfl ?_); refine boxE (N := 3) (cs := #[.int .i64 a0_0, .int .i64 a0_1, .slice A0_2 l0_2.length c0_2]) (t := 30) ?_; intro gb101 hg w7 hbox hb; have n0_ := Aside0.mk (below_step (bel HB) hb); have n1_ := Aside0.mk (hbox); have n2_ := Aside0.mk (gsz hg (bel HB)); have n3_ := Aside0.mk (gsz hg (bel HB)); clear HB; have HB := n0_; have BK101 := n1_; have GW101 := n2_; have GE101 := n3_; clear n0_ n1_ n2_ n3_; clear hb hbox hg; have hcz8_0 : w7.cell? ⟨gb101, 0, none⟩ = some (.int .i64 a0_0) := (blk_cell BK101.out 0).trans rfl; have hcz8_1 : w7.cell? ⟨gb101, 1, none⟩ = some (.int .i64 a0_1) := (blk_cell BK101.out 1).trans rfl; have hcz8_2 : w7.cell? ⟨gb101, 2, none⟩ = some (.slice A0_2 l0_2.length c0_2) := (blk_cell BK101.out 2).trans rfl; have hfz8_0 := blk_frozen BK101.out 0; have hfz8_1 := blk_frozen BK101.out 1; have hfz8_2 := blk_frozen BK101.out 2) | ((with_reducible refine gate_callee (f := 93) rfl ?_); refine gcall (some 11) Tryd.func93 #[.int .i64 a1, .int .i64 0, .int .i64 (wrap64 (a0_0 - 1))] rfl ?_; (with_reducible refine (spec_l1In.calls a1 0 (wrap64 (a0_0 - 1)) true _ A4.out).mono ?_); rintro e w' ⟨rfl, ⟨nd, rfl⟩⟩; refine ⟨_, rfl, ?_⟩) | (go_at_call 93; (with_reducible refine (spec_l1In.calls a2 0 (wrap64 (a0_1 - 1)) t103 _ A6.out).mono ?_); rintro e w' ⟨rfl, ⟨nd, rfl⟩⟩))
  go_ret
  exact ⟨by first | rfl | (simp [errW_none, errW_some] <;> rfl) | (simp [*, errW_none, errW_some] <;> rfl), bel HB⟩
 ·replace c5 := Bool.eq_false_iff.mpr c5
  subst c5
  have H1 : (some false) = some r := by rw [if_neg (show ¬ (false = true) by decide)] at H; exact H
  clear H;have H := H1;clear H1;obtain rfl := Option.some.inj H
  go_enter Tryd.func79, Tryd.ntmps79
  go_wp2_with (first | ((with_reducible refine gate_dst (N := 3) rfl ?_); refine boxE (N := 3) (cs := #[.int .i64 a0_0, .int .i64 a0_1, .slice A0_2 l0_2.length c0_2]) (t := 30) ?_; intro gb101 hg w9 hbox hb; have n0_ := Aside0.mk (below_step (bel HB) hb); have n1_ := Aside0.mk (hbox); have n2_ := Aside0.mk (gsz hg (bel HB)); have n3_ := Aside0.mk (gsz hg (bel HB)); clear HB; have HB := n0_; have BK101 := n1_; have GW101 := n2_; have GE101 := n3_; clear n0_ n1_ n2_ n3_; clear hb hbox hg; have hcz10_0 : w9.cell? ⟨gb101, 0, none⟩ = some (.int .i64 a0_0) := (blk_cell BK101.out 0).trans rfl; have hcz10_1 : w9.cell? ⟨gb101, 1, none⟩ = some (.int .i64 a0_1) := (blk_cell BK101.out 1).trans rfl; have hcz10_2 : w9.cell? ⟨gb101, 2, none⟩ = some (.slice A0_2 l0_2.length c0_2) := (blk_cell BK101.out 2).trans rfl; have hfz10_0 := blk_frozen BK101.out 0; have hfz10_1 := blk_frozen BK101.out 1; have hfz10_2 := blk_frozen BK101.out 2) | ((with_reducible refine gate_callee (f := 93) rfl ?_); refine gcall (some 11) Tryd.func93 #[.int .i64 a1, .int .i64 0, .int .i64 (wrap64 (a0_0 - 1))] rfl ?_; (with_reducible refine (spec_l1In.calls a1 0 (wrap64 (a0_0 - 1)) false _ A4.out).mono ?_); rintro e w' ⟨rfl, ⟨nd, rfl⟩⟩; refine ⟨_, rfl, ?_⟩))
  go_ret
  exact ⟨by first | rfl | (simp [errW_none, errW_some] <;> rfl) | (simp [*, errW_none, errW_some] <;> rfl), bel HB⟩
end Go.Proofs.YtkjlfgceodindaaDoor.Q
end
section
namespace Go.Proofs.YtkjlfgceodindaaDoor.Q
set_option linter.unusedSectionVars false
open Go.RowKit Go.Proofs.YtkjlfgceodindaaDoorW.PrintWords Go.Proofs.YtkjlfgceodindaaDoorW.PrintLast Go.Proofs.YtkjlfgceodindaaDoorW.PrintMore
structure Bx (W : World) (g : Nat) (a b : Int) (A : Option Addr) (c : Nat) (l : List Int) : Prop where
 c0 : W.cell? ⟨g, 0, none⟩ = some (.int .i64 a)
 c1 : W.cell? ⟨g, 1, none⟩ = some (.int .i64 b)
 c2 : W.cell? ⟨g, 2, none⟩ = some (.slice A l.length c)
 lt : g < W.heap.size
 reads : Kd.C (Kd.int .u8) W A l.length l
theorem Bx.below {W W' : World} {g : Nat} {a b : Int} {A : Option Addr} {c : Nat} {l : List Int} (h : Bx W g a b A c l) (hb : Below W.heap.size W W') : Bx W' g a b A c l :=
 ⟨(hb.cell (p := ⟨g, 0, none⟩) h.lt).trans h.c0, (hb.cell (p := ⟨g, 1, none⟩) h.lt).trans h.c1, (hb.cell (p := ⟨g, 2, none⟩) h.lt).trans h.c2, Nat.lt_of_lt_of_le h.lt hb.size, Kd.C_below h.reads hb⟩
end Go.Proofs.YtkjlfgceodindaaDoor.Q
end
section
namespace Go.Proofs.YtkjlfgceodindaaDoor.Q
set_option linter.unusedVariables false
set_option linter.unusedSectionVars false
open Go.RowKit Go.Proofs.YtkjlfgceodindaaDoorW.PrintWords Go.Proofs.YtkjlfgceodindaaDoorW.PrintLast Go.Proofs.YtkjlfgceodindaaDoorW.PrintMore
def spec_tiAhead.f (a0_0 : Int) (a0_1 : Int) (l0_2 : List Int) (a1 : Int) (a2 : Int) : Option (Int) := if a0_0 = 0 then (none) else (if a2 = 0 then ((spec_tyCell.f a0_0 a0_1 l0_2 (Int.tmod a1 a0_0) (wrap64 ((wrap64 (Int.tdiv a1 a0_0)) - 1))).bind fun t102 => (if t102 = true then (if 0 ≤ (wrap64 ((wrap64 ((wrap64 ((wrap64 (Int.tdiv a1 a0_0)) - 1)) * a0_0)) + (Int.tmod a1 a0_0))) then (if (wrap64 ((wrap64 ((wrap64 ((wrap64 (Int.tdiv a1 a0_0)) - 1)) * a0_0)) + (Int.tmod a1 a0_0))) < (l0_2.length : Int) then (if (rd l0_2 (wrap64 ((wrap64 ((wrap64 ((wrap64 (Int.tdiv a1 a0_0)) - 1)) * a0_0)) + (Int.tmod a1 a0_0)))) = 35 then (some (-1)) else (some (wrap64 ((wrap64 ((wrap64 ((wrap64 (Int.tdiv a1 a0_0)) - 1)) * a0_0)) + (Int.tmod a1 a0_0))))) else (none)) else (none)) else (some (-1)))) else (if a2 = 1 then ((spec_tyCell.f a0_0 a0_1 l0_2 (wrap64 ((Int.tmod a1 a0_0) + 1)) (wrap64 (Int.tdiv a1 a0_0))).bind fun t104 => (if t104 = true then (if 0 ≤ (wrap64 ((wrap64 ((wrap64 (Int.tdiv a1 a0_0)) * a0_0)) + (wrap64 ((Int.tmod a1 a0_0) + 1)))) then (if (wrap64 ((wrap64 ((wrap64 (Int.tdiv a1 a0_0)) * a0_0)) + (wrap64 ((Int.tmod a1 a0_0) + 1)))) < (l0_2.length : Int) then (if (rd l0_2 (wrap64 ((wrap64 ((wrap64 (Int.tdiv a1 a0_0)) * a0_0)) + (wrap64 ((Int.tmod a1 a0_0) + 1))))) = 35 then (some (-1)) else (some (wrap64 ((wrap64 ((wrap64 (Int.tdiv a1 a0_0)) * a0_0)) + (wrap64 ((Int.tmod a1 a0_0) + 1)))))) else (none)) else (none)) else (some (-1)))) else (if a2 = 2 then ((spec_tyCell.f a0_0 a0_1 l0_2 (Int.tmod a1 a0_0) (wrap64 ((wrap64 (Int.tdiv a1 a0_0)) + 1))).bind fun t106 => (if t106 = true then (if 0 ≤ (wrap64 ((wrap64 ((wrap64 ((wrap64 (Int.tdiv a1 a0_0)) + 1)) * a0_0)) + (Int.tmod a1 a0_0))) then (if (wrap64 ((wrap64 ((wrap64 ((wrap64 (Int.tdiv a1 a0_0)) + 1)) * a0_0)) + (Int.tmod a1 a0_0))) < (l0_2.length : Int) then (if (rd l0_2 (wrap64 ((wrap64 ((wrap64 ((wrap64 (Int.tdiv a1 a0_0)) + 1)) * a0_0)) + (Int.tmod a1 a0_0)))) = 35 then (some (-1)) else (some (wrap64 ((wrap64 ((wrap64 ((wrap64 (Int.tdiv a1 a0_0)) + 1)) * a0_0)) + (Int.tmod a1 a0_0))))) else (none)) else (none)) else (some (-1)))) else ((spec_tyCell.f a0_0 a0_1 l0_2 (wrap64 ((Int.tmod a1 a0_0) - 1)) (wrap64 (Int.tdiv a1 a0_0))).bind fun t108 => (if t108 = true then (if 0 ≤ (wrap64 ((wrap64 ((wrap64 (Int.tdiv a1 a0_0)) * a0_0)) + (wrap64 ((Int.tmod a1 a0_0) - 1)))) then (if (wrap64 ((wrap64 ((wrap64 (Int.tdiv a1 a0_0)) * a0_0)) + (wrap64 ((Int.tmod a1 a0_0) - 1)))) < (l0_2.length : Int) then (if (rd l0_2 (wrap64 ((wrap64 ((wrap64 (Int.tdiv a1 a0_0)) * a0_0)) + (wrap64 ((Int.tmod a1 a0_0) - 1))))) = 35 then (some (-1)) else (some (wrap64 ((wrap64 ((wrap64 (Int.tdiv a1 a0_0)) * a0_0)) + (wrap64 ((Int.tmod a1 a0_0) - 1)))))) else (none)) else (none)) else (some (-1)))))))
def tailA (w h : Int) (cs : List Int) (x y : Int) : Option Int := (spec_tyCell.f w h cs x y).bind fun t => (if t = true then (if 0 ≤ (wrap64 ((wrap64 (y * w)) + x)) then (if (wrap64 ((wrap64 (y * w)) + x)) < (cs.length : Int) then (if (rd cs (wrap64 ((wrap64 (y * w)) + x))) = 35 then (some (-1)) else (some (wrap64 ((wrap64 (y * w)) + x)))) else (none)) else (none)) else (some (-1)))
theorem tiA_tail {w h : Int} {cs : List Int} {a d r : Int} (hr : spec_tiAhead.f w h cs a d = some r) : w ≠ 0 ∧ ∃ x y, ((d = 0 ∧ x = Int.tmod a w ∧ y = wrap64 ((wrap64 (Int.tdiv a w)) - 1)) ∨ (d = 1 ∧ x = wrap64 ((Int.tmod a w) + 1) ∧ y = wrap64 (Int.tdiv a w)) ∨ (d = 2 ∧ x = Int.tmod a w ∧ y = wrap64 ((wrap64 (Int.tdiv a w)) + 1)) ∨ ((d == 0) = false ∧ (d == 1) = false ∧ (d == 2) = false ∧ x = wrap64 ((Int.tmod a w) - 1) ∧ y = wrap64 (Int.tdiv a w))) ∧ tailA w h cs x y = some r := by
 unfold spec_tiAhead.f at hr
 by_cases h0 : w = 0
 ·rw [if_pos h0] at hr
  cases hr
 ·rw [if_neg h0] at hr
  refine ⟨h0, ?_⟩
  by_cases d0 : d = 0
  ·rw [if_pos d0] at hr
   exact ⟨_, _, .inl ⟨d0, rfl, rfl⟩, hr⟩
  ·rw [if_neg d0] at hr
   by_cases d1 : d = 1
   ·rw [if_pos d1] at hr
    exact ⟨_, _, .inr (.inl ⟨d1, rfl, rfl⟩), hr⟩
   ·rw [if_neg d1] at hr
    by_cases d2 : d = 2
    ·rw [if_pos d2] at hr
     exact ⟨_, _, .inr (.inr (.inl ⟨d2, rfl, rfl⟩)), hr⟩
    ·rw [if_neg d2] at hr
     exact ⟨_, _, .inr (.inr (.inr ⟨beq_eq_false_iff_ne.2 d0, beq_eq_false_iff_ne.2 d1, beq_eq_false_iff_ne.2 d2, rfl, rfl⟩)), hr⟩
set_option maxHeartbeats 16000000 in
set_option maxRecDepth 100000 in
theorem spec_tiAhead.calls (a0_0 : Int) (a0_1 : Int) (A0_2 : Option Addr) (c0_2 : Nat) (l0_2 : List Int) (a1 : Int) (a2 : Int) (r : Int) (w : World) (hr0_2 : Kd.C (Kd.int .u8) w A0_2 l0_2.length l0_2) (hc0_2 : l0_2.length ≤ c0_2) (h : spec_tiAhead.f a0_0 a0_1 l0_2 a1 a2 = some r) :
  Calls Tryd.prog 61 #[.agg #[.int .i64 a0_0, .int .i64 a0_1, .slice A0_2 l0_2.length c0_2], .int .i64 a1, .int .i64 a2] w fun e w' => e = .returned (.int .i64 r) ∧ Below w.heap.size w w' := by
 have hu := Tryd.underlying30;have HR := Aside0.mk hr0_2;have HC := Aside0.mk hc0_2;obtain ⟨hw0, x, y, hsw, ht⟩ := tiA_tail h;have e0 : (a0_0 == 0) = false := beq_eq_false_iff_ne.2 hw0;have e1 : (a0_0 != 0) = true := bne_iff_ne.2 hw0;unfold tailA at ht;obtain ⟨t, hcell, ht2⟩ := Option.bind_eq_some_iff.1 ht;clear ht;have ht := ht2;clear ht2;have HT := Aside0.mk hcell;have HB := Aside0.mk (Below.refl w.heap.size w)
 have key : ∃ b : Bool, (t = true → (0 ≤ (wrap64 ((wrap64 (y * a0_0)) + x)) ∧ (wrap64 ((wrap64 (y * a0_0)) + x)) < (l0_2.length : Int)) ∧ (rd l0_2 (wrap64 ((wrap64 (y * a0_0)) + x)) == 35) = b) ∧ r = if t = true ∧ b = false then (wrap64 ((wrap64 (y * a0_0)) + x)) else -1 := by
  refine ⟨rd l0_2 (wrap64 ((wrap64 (y * a0_0)) + x)) == 35, ?_⟩
  cases t with
  | false =>
   refine ⟨fun h => (by cases h), ?_⟩
   rw [if_neg (by simp)]
   exact (Option.some.inj ht).symm
  | true =>
   rw [if_pos rfl] at ht
   split at ht
   ·rename_i g0
    split at ht
    ·rename_i g1
     refine ⟨fun _ => ⟨⟨g0, g1⟩, rfl⟩, ?_⟩
     split at ht
     ·rename_i g2
      rw [if_neg (by simp [g2])]
      exact (Option.some.inj ht).symm
     ·rename_i g2
      rw [if_pos ⟨rfl, beq_eq_false_iff_ne.2 g2⟩]
      exact (Option.some.inj ht).symm
    ·cases ht
   ·cases ht
 obtain ⟨b, hk, rfl⟩ := key;obtain ⟨j, hj⟩ : ∃ j : Int, (wrap64 ((wrap64 (y * a0_0)) + x)) = j := ⟨_, rfl⟩;have hjw : IntKind.i64.wrap ((wrap64 (y * a0_0)) + x) = j := (i64_w _).trans hj
 rw [hj] at hk
 rw [hj]
 have HK := Aside0.mk hk;clear ht hcell hr0_2 hc0_2 h hk HB
 cases t with
 | false =>
  rw [if_neg (show ¬ (false = true ∧ b = false) by simp)]
  rcases hsw with ⟨rfl, rfl, rfl⟩ | ⟨rfl, rfl, rfl⟩ | ⟨rfl, rfl, rfl⟩ | ⟨d0, d1, d2, rfl, rfl⟩ <;> (
   go_enter Tryd.func61, Tryd.ntmps61
   go_wp2_with ((with_reducible refine gate_dst (N := 3) rfl ?_); refine boxE (N := 3) (cs := #[.int .i64 a0_0, .int .i64 a0_1, .slice A0_2 l0_2.length c0_2]) (t := 30) ?_; intro gt hg w3 hbox hb; (have HB3 := Aside0.mk hb); (have HX3 := Aside0.mk (Bx.mk ((blk_cell hbox 0).trans rfl) ((blk_cell hbox 1).trans rfl) ((blk_cell hbox 2).trans rfl) (blk_lt hbox) (Kd.C_below HR.out hb) : Bx w3 gt a0_0 a0_1 A0_2 c0_2 l0_2)); clear hbox hg hb; (have z0 := HX3.out.c0); (have z1 := HX3.out.c1); (have z2 := HX3.out.c2))
   repeat (go_quiet (fail); try go_wp2_with (go_at_call 79; (with_reducible refine (spec_tyCell.calls a0_0 a0_1 _ _ l0_2 _ _ _ _ ?side1 ?side2 HT.out).mono ?_); (case side1 => repeat (first | exact HX3.out.reads | (with_reducible refine Kd.C_alloc ?_ _) | (with_reducible refine Kd.C_drewN ?_ _) | (with_reducible refine Kd.C_drew ?_))); (case side2 => exact HC.out); rintro e w5 ⟨rfl, hb⟩; (have HX5 := Aside0.mk ((HX3.out.below (by (with_reducible repeat (first | apply pw_below_drewN | apply below_drew1)); exact Below.refl _ _)).below hb)); (have HB5 := Aside0.mk (below_step (bel HB3) hb)); clear HX3 HB3 z0 z1 z2 hb; (have z0 := HX5.out.c0); (have z1 := HX5.out.c1); (have z2 := HX5.out.c2)))
   go_ret
   exact ⟨by first | rfl | simp, bel HB5⟩)
 | true =>
  obtain ⟨⟨g0, g1⟩, g2⟩ := HK.out rfl;have p0 := eq_true g0;have p1 := eq_true g1;have HG := Aside0.mk (And.intro g0 g1);clear g0 g1
  rcases hsw with ⟨rfl, rfl, rfl⟩ | ⟨rfl, rfl, rfl⟩ | ⟨rfl, rfl, rfl⟩ | ⟨d0, d1, d2, rfl, rfl⟩ <;> rcases b with _ | _ <;> (
   first | rw [if_pos (And.intro rfl rfl)] | rw [if_neg (show ¬ (true = true ∧ true = false) by simp)]
   go_enter Tryd.func61, Tryd.ntmps61
   go_wp2_with ((with_reducible refine gate_dst (N := 3) rfl ?_); refine boxE (N := 3) (cs := #[.int .i64 a0_0, .int .i64 a0_1, .slice A0_2 l0_2.length c0_2]) (t := 30) ?_; intro gt hg w3 hbox hb; (have HB3 := Aside0.mk hb); (have HX3 := Aside0.mk (Bx.mk ((blk_cell hbox 0).trans rfl) ((blk_cell hbox 1).trans rfl) ((blk_cell hbox 2).trans rfl) (blk_lt hbox) (Kd.C_below HR.out hb) : Bx w3 gt a0_0 a0_1 A0_2 c0_2 l0_2)); clear hbox hg hb; (have z0 := HX3.out.c0); (have z1 := HX3.out.c1); (have z2 := HX3.out.c2))
   repeat (go_quiet (fail); try go_wp2_with (go_at_call 79; (with_reducible refine (spec_tyCell.calls a0_0 a0_1 _ _ l0_2 _ _ _ _ ?side1 ?side2 HT.out).mono ?_); (case side1 => repeat (first | exact HX3.out.reads | (with_reducible refine Kd.C_alloc ?_ _) | (with_reducible refine Kd.C_drewN ?_ _) | (with_reducible refine Kd.C_drew ?_))); (case side2 => exact HC.out); rintro e w5 ⟨rfl, hb⟩; (have HX5 := Aside0.mk ((HX3.out.below (by (with_reducible repeat (first | apply pw_below_drewN | apply below_drew1)); exact Below.refl _ _)).below hb)); (have HB5 := Aside0.mk (below_step (bel HB3) hb)); clear HX3 HB3 z0 z1 z2 hb; obtain ⟨ad, ead, hx⟩ := Kd.at_int HX5.out.reads _ HG.out.1 HG.out.2; cases ead; (have z0 := HX5.out.c0); (have z1 := HX5.out.c1); (have z2 := HX5.out.c2)))
   go_ret
   exact ⟨by first | rfl | simp, bel HB5⟩)
end Go.Proofs.YtkjlfgceodindaaDoor.Q
end
section
namespace Go.Proofs.YtkjlfgceodindaaDoor.Q
open Go.RowKit Go.Proofs.YtkjlfgceodindaaDoorW.PrintWords Go.Proofs.YtkjlfgceodindaaDoorW.PrintLast Go.Proofs.YtkjlfgceodindaaDoorW.PrintMore
set_option linter.unusedSectionVars false
def dirC (d : Nat) : Int := ([117, 114, 100, 108] : List Int).getD d 0
def seen (cs : List Int) (j : Int) : Option Int := if 0 ≤ j then (if j < (cs.length : Int) then (if rd cs j = 35 then some (-1) else some j) else none) else none
theorem seen_rep (cs : List Int) (n : Nat) (hn : cs.length = n) (j r : Int) (h : seen (List.replicate n 0) j = some r) : j = r ∧ seen cs j = some (if rd cs j = 35 then -1 else j) ∧ 0 ≤ j := by
 unfold seen at h ⊢
 rw [List.length_replicate] at h
 by_cases h1 : 0 ≤ j
 ·rw [if_pos h1] at h ⊢
  by_cases h2 : j < (n : Int)
  ·rw [if_pos h2] at h
   rw [if_pos (by omega)]
   have h3 : rd (List.replicate n (0 : Int)) j = 0 := by
    unfold rd
    rw [List.getD_eq_getElem?_getD, List.getElem?_replicate, if_pos (by omega)]
    rfl
   rw [if_neg (by omega)] at h
   refine ⟨Option.some.inj h, ?_, h1⟩
   split <;> rfl
  ·rw [if_neg h2] at h
   cases h
 ·rw [if_neg h1] at h
  cases h
theorem tiAhead_of (cs : List Int) (n : Nat) (hn : cs.length = n) (w h i d r : Int) (hr : spec_tiAhead.f w h (List.replicate n 0) i d = some r) : spec_tiAhead.f w h cs i d = some (if r < 0 then r else if rd cs r = 35 then -1 else r) := by
 have key : ∀ (x y j : Int), ((spec_tyCell.f w h (List.replicate n 0) x y).bind fun t => if t = true then seen (List.replicate n 0) j else some (-1)) = some r →
   ((spec_tyCell.f w h cs x y).bind fun t => if t = true then seen cs j else some (-1)) = some (if r < 0 then r else if rd cs r = 35 then -1 else r) := by
  intro x y j hx;obtain ⟨t, h1, h2⟩ := Option.bind_eq_some_iff.1 hx;have h3 : spec_tyCell.f w h cs x y = some t := h1
  rw [h3, Option.bind_some]
  by_cases ht : t = true
  ·rw [if_pos ht] at h2 ⊢
   obtain ⟨rfl, h4, h5⟩ := seen_rep cs n hn j r h2
   rw [h4, if_neg (show ¬ j < 0 by omega)]
  ·rw [if_neg ht] at h2 ⊢
   obtain rfl := Option.some.inj h2
   rfl
 unfold spec_tiAhead.f at hr ⊢
 by_cases h0 : w = 0
 ·rw [if_pos h0] at hr
  cases hr
 rw [if_neg h0] at hr ⊢
 by_cases h1 : d = 0
 ·rw [if_pos h1] at hr ⊢
  exact key _ _ _ hr
 rw [if_neg h1] at hr ⊢
 by_cases h2 : d = 1
 ·rw [if_pos h2] at hr ⊢
  exact key _ _ _ hr
 rw [if_neg h2] at hr ⊢
 by_cases h3 : d = 2
 ·rw [if_pos h3] at hr ⊢
  exact key _ _ _ hr
 rw [if_neg h3] at hr ⊢
 exact key _ _ _ hr
end Go.Proofs.YtkjlfgceodindaaDoor.Q
end
section
namespace Go.Proofs.YtkjlfgceodindaaDoor.Q
set_option linter.unusedSectionVars false
set_option linter.unusedSimpArgs false
set_option linter.unusedVariables false
open Go.RowKit Go.Proofs.YtkjlfgceodindaaDoorW.PrintWords Go.Proofs.YtkjlfgceodindaaDoorW.PrintLast Go.Proofs.YtkjlfgceodindaaDoorW.PrintMore
namespace WD
def wv (w : List Nat) : Nat := w.foldl (fun v d => 4 * v + d + 1) 0
theorem wv_snoc (w : List Nat) (d : Nat) : wv (w ++ [d]) = 4 * wv w + d + 1 := by unfold wv; rw [List.foldl_append]; rfl
def av : Nat → Nat
 | 0 => 0
 | n + 1 => 4 * av n + 1
def okw (w : List Nat) : Prop := ∀ d ∈ w, d < 4
theorem okw_snoc {w : List Nat} {d : Nat} (h : okw w) (hd : d < 4) : okw (w ++ [d]) := fun x hx => by
 rcases List.mem_append.1 hx with hx | hx
 ·exact h x hx
 ·rw [List.mem_singleton.1 hx]
  exact hd
theorem snoc_cases (w : List Nat) : w = [] ∨ ∃ u d, w = u ++ [d] := by
 rcases List.eq_nil_or_concat w with h | ⟨u, d, h⟩
 ·exact .inl h
 ·exact .inr ⟨u, d, by rw [h, List.concat_eq_append]⟩
theorem wv_len : ∀ (n : Nat) (w : List Nat), w.length = n → okw w → av n ≤ wv w ∧ wv w < av (n + 1)
 | 0, w, hl, _ => by
  obtain rfl := List.eq_nil_of_length_eq_zero hl
  exact ⟨Nat.le_refl _, by decide⟩
 | n + 1, w, hl, ho => by
  rcases snoc_cases w with h | ⟨u, d, h⟩
  ·subst h
   cases hl
  ·subst h
   rw [List.length_append, List.length_singleton] at hl
   obtain ⟨h1, h2⟩ := wv_len n u (by omega) fun x hx => ho x (by simp [hx])
   have hd := ho d (by simp)
   rw [wv_snoc]
   have e1 : av (n + 1) = 4 * av n + 1 := rfl;have e2 : av (n + 1 + 1) = 4 * av (n + 1) + 1 := rfl
   omega
theorem av_mono {m n : Nat} (h : m ≤ n) : av m ≤ av n := by
 induction n with
 | zero => rw [Nat.le_zero.1 h]; exact Nat.le_refl _
 | succ n ih =>
  rcases Nat.eq_or_lt_of_le h with e | e
  ·rw [e]
   exact Nat.le_refl _
  ·have := ih (by omega)
   show av m ≤ 4 * av n + 1
   omega
theorem len_le {u v : List Nat} (hu : okw u) (hv : okw v) (h : wv v ≤ wv u) : v.length ≤ u.length := by
 rcases Nat.lt_or_ge u.length v.length with hlt | hge
 ·have h1 := wv_len _ u rfl hu
  have h2 := wv_len _ v rfl hv;have h3 := av_mono (show u.length + 1 ≤ v.length by omega)
  omega
 ·exact hge
def four (w : List Nat) : List (List Nat) := [w ++ [0], w ++ [1], w ++ [2], w ++ [3]]
def lev : Nat → List (List Nat)
 | 0 => [[]]
 | n + 1 => (lev n).flatMap four
theorem mem_four {w x : List Nat} : x ∈ four w ↔ ∃ d, d < 4 ∧ x = w ++ [d] := by
 unfold four
 constructor
 ·intro h
  simp only [List.mem_cons, List.not_mem_nil, or_false] at h
  rcases h with h | h | h | h
  ·exact ⟨0, by decide, h⟩
  ·exact ⟨1, by decide, h⟩
  ·exact ⟨2, by decide, h⟩
  ·exact ⟨3, by decide, h⟩
 ·rintro ⟨d, hd, rfl⟩
  match d, hd with
  | 0, _ => simp
  | 1, _ => simp
  | 2, _ => simp
  | 3, _ => simp
theorem mem_lev : ∀ (n : Nat) (w : List Nat), w ∈ lev n ↔ w.length = n ∧ okw w
 | 0, w => by
  show w ∈ [[]] ↔ _
  rw [List.mem_singleton]
  constructor
  ·rintro rfl
   exact ⟨rfl, fun d hd => by cases hd⟩
  ·exact fun h => List.eq_nil_of_length_eq_zero h.1
 | n + 1, w => by
  show w ∈ (lev n).flatMap four ↔ _
  rw [List.mem_flatMap]
  constructor
  ·rintro ⟨u, hu, hw⟩
   obtain ⟨d, hd, rfl⟩ := mem_four.1 hw;obtain ⟨h1, h2⟩ := (mem_lev n u).1 hu
   exact ⟨by rw [List.length_append, h1]; rfl, okw_snoc h2 hd⟩
  ·rintro ⟨h1, h2⟩
   rcases snoc_cases w with h | ⟨u, d, h⟩
   ·subst h
    cases h1
   ·subst h
    rw [List.length_append, List.length_singleton] at h1
    exact ⟨u, (mem_lev n u).2 ⟨by omega, fun x hx => h2 x (by simp [hx])⟩, mem_four.2 ⟨d, h2 d (by simp), rfl⟩⟩
theorem four_sorted (w : List Nat) : (four w).Pairwise fun a b => wv a < wv b := by
 unfold four
 simp only [List.pairwise_cons, List.mem_cons, List.not_mem_nil, or_false, forall_eq_or_imp, forall_eq, wv_snoc]
 refine ⟨⟨by omega, by omega, by omega⟩, ⟨by omega, by omega⟩, by omega, fun _ h => h.elim, List.Pairwise.nil⟩
theorem lev_sorted : ∀ n, (lev n).Pairwise fun a b => wv a < wv b
 | 0 => List.pairwise_singleton _ _
 | n + 1 => by
  show ((lev n).flatMap four).Pairwise _
  rw [List.pairwise_flatMap]
  refine ⟨fun w _ => four_sorted w, (lev_sorted n).imp fun {a b} hab x hx y hy => ?_⟩
  obtain ⟨d, hd, rfl⟩ := mem_four.1 hx;obtain ⟨e, he, rfl⟩ := mem_four.1 hy
  rw [wv_snoc, wv_snoc]
  omega
def allw (n : Nat) : List (List Nat) := (List.range (n + 1)).flatMap lev
theorem mem_allw {n : Nat} {w : List Nat} : w ∈ allw n ↔ w.length ≤ n ∧ okw w := by
 unfold allw
 rw [List.mem_flatMap]
 constructor
 ·rintro ⟨m, hm, hw⟩
  obtain ⟨h1, h2⟩ := (mem_lev m w).1 hw;have := List.mem_range.1 hm
  exact ⟨by omega, h2⟩
 ·rintro ⟨h1, h2⟩
  exact ⟨w.length, List.mem_range.2 (by omega), (mem_lev _ w).2 ⟨rfl, h2⟩⟩
theorem allw_sorted (n : Nat) : (allw n).Pairwise fun a b => wv a < wv b := by
 unfold allw
 rw [List.pairwise_flatMap]
 refine ⟨fun m _ => lev_sorted m, List.pairwise_lt_range.imp fun {a b} hab x hx y hy => ?_⟩
 obtain ⟨h1, h2⟩ := (mem_lev a x).1 hx;obtain ⟨h3, h4⟩ := (mem_lev b y).1 hy;have h5 := wv_len a x h1 h2;have h6 := wv_len b y h3 h4;have h7 := av_mono (show a + 1 ≤ b by omega)
 omega
theorem find_sorted {β : Type} (key : β → Nat) (p : β → Bool) : ∀ (l : List β), (l.Pairwise fun a b => key a < key b) → ∀ v ∈ l, p v = true → (∀ u ∈ l, p u = true → key v ≤ key u) → l.find? p = some v
 | [], _, v, hv, _, _ => by cases hv
 | a :: l, hs, v, hv, hp, hm => by
  rw [List.pairwise_cons] at hs
  rcases List.mem_cons.1 hv with e | hv
  ·subst e
   rw [List.find?_cons_of_pos hp]
  ·have hlt := hs.1 v hv
   have hna : ¬ p a = true := fun ha => by
    have := hm a (by simp) ha
    omega
   rw [List.find?_cons_of_neg hna]
   exact find_sorted key p l hs.2 v hv hp fun u hu hpu => hm u (by simp [hu]) hpu
section
variable {α : Type} [DecidableEq α] (T : Nat → α → α) (t : α) (most : Nat)
def run (w : List Nat) : α := w.foldl (fun x d => T d x) t
theorem run_snoc (w : List Nat) (d : Nat) : run T t (w ++ [d]) = T d (run T t w) := by unfold run; rw [List.foldl_append]; rfl
def one (L : List (α × List Nat)) (e : α × List Nat) (d : Nat) : List (α × List Nat) := if T d e.1 ∈ L.map Prod.fst then L else L ++ [(T d e.1, e.2 ++ [d])]
def step4 (L : List (α × List Nat)) (e : α × List Nat) : List (α × List Nat) := one T (one T (one T (one T L e 0) e 1) e 2) e 3
def loop : Nat → Nat → List (α × List Nat) → List (α × List Nat)
 | 0, _, L => L
 | m + 1, k, L => match L[k]? with
  | none => L
  | some e => if e.2.length = most then L else loop m (k + 1) (step4 T L e)
structure Inv (L : List (α × List Nat)) (k b : Nat) : Prop where
 first : ∃ l, L = (t, []) :: l
 kl : k ≤ L.length
 st : ∀ e ∈ L, e.1 = run T t e.2 ∧ okw e.2 ∧ e.2.length ≤ most
 srt : L.Pairwise fun e e' => wv e.2 < wv e'.2
 bd : ∀ e ∈ L, wv e.2 < b
 done : ∀ (j : Nat) (e : α × List Nat), j < k → L[j]? = some e → ∀ d, d < 4 → ∃ e' ∈ L, e'.1 = T d e.1 ∧ wv e'.2 ≤ 4 * wv e.2 + d + 1
theorem Inv.one {L : List (α × List Nat)} {k : Nat} {e : α × List Nat} {d : Nat} (h : Inv T t most L k (4 * wv e.2 + d + 1)) (he : e ∈ L) (hl : e.2.length < most) (hd : d < 4) :
  Inv T t most (one T L e d) k (4 * wv e.2 + (d + 1) + 1) ∧ (∃ l, one T L e d = L ++ l) ∧ ∃ e' ∈ one T L e d, e'.1 = T d e.1 ∧ wv e'.2 ≤ 4 * wv e.2 + d + 1 := by
 unfold WD.one
 by_cases hm : T d e.1 ∈ L.map Prod.fst
 ·rw [if_pos hm]
  obtain ⟨e', he', e1⟩ := List.mem_map.1 hm
  exact ⟨⟨h.first, h.kl, h.st, h.srt, fun x hx => by have := h.bd x hx; omega, h.done⟩, ⟨[], by simp⟩, e', he', e1, by have := h.bd e' he'; omega⟩
 ·rw [if_neg hm]
  obtain ⟨h1, h2, h3⟩ := h.st e he
  refine ⟨⟨?_, by rw [List.length_append]; have := h.kl; omega, fun x hx => ?_, ?_, fun x hx => ?_, fun j x hj hx c hc => ?_⟩, ⟨_, rfl⟩, (T d e.1, e.2 ++ [d]), by simp, rfl, by rw [wv_snoc]; exact Nat.le_refl _⟩
  ·obtain ⟨l, hl2⟩ := h.first
   exact ⟨l ++ [(T d e.1, e.2 ++ [d])], by rw [hl2]; rfl⟩
  ·rcases List.mem_append.1 hx with hx | hx
   ·exact h.st x hx
   ·rw [List.mem_singleton.1 hx]
    exact ⟨by rw [run_snoc, ← h1], okw_snoc h2 hd, by rw [List.length_append, List.length_singleton]; omega⟩
  ·rw [List.pairwise_append]
   refine ⟨h.srt, List.pairwise_singleton _ _, fun x hx y hy => ?_⟩
   rw [List.mem_singleton.1 hy, wv_snoc]
   exact h.bd x hx
  ·rcases List.mem_append.1 hx with hx | hx
   ·have := h.bd x hx
    omega
   ·rw [List.mem_singleton.1 hx, wv_snoc]
    omega
  ·have hjl : j < L.length := Nat.lt_of_lt_of_le hj h.kl
   rw [List.getElem?_append_left hjl] at hx
   obtain ⟨e', he', e1, e2⟩ := h.done j x hj hx c hc
   exact ⟨e', by simp [he'], e1, e2⟩
theorem Inv.four {L : List (α × List Nat)} {k : Nat} {e : α × List Nat} (h : Inv T t most L k (4 * wv e.2 + 1)) (hk : L[k]? = some e) (hl : e.2.length < most) :
  Inv T t most (step4 T L e) (k + 1) (4 * wv e.2 + 5) ∧ ∃ l, step4 T L e = L ++ l := by
 have he : e ∈ L := List.mem_of_getElem? hk;obtain ⟨h1, ⟨l1, e1⟩, x1, m1, a1, b1⟩ := Inv.one T t most (d := 0) h he hl (by decide);obtain ⟨h2, ⟨l2, e2⟩, x2, m2, a2, b2⟩ := Inv.one T t most (d := 1) h1 (by rw [e1]; simp [he]) hl (by decide);obtain ⟨h3, ⟨l3, e3⟩, x3, m3, a3, b3⟩ := Inv.one T t most (d := 2) h2 (by rw [e2, e1]; simp [he]) hl (by decide);obtain ⟨h4, ⟨l4, e4⟩, x4, m4, a4, b4⟩ := Inv.one T t most (d := 3) h3 (by rw [e3, e2, e1]; simp [he]) hl (by decide)
 have e5 : step4 T L e = L ++ (l1 ++ (l2 ++ (l3 ++ l4))) := by
  unfold step4
  rw [e4, e3, e2, e1]
  simp only [List.append_assoc]
 have hkl := (List.getElem?_eq_some_iff.1 hk).1
 refine ⟨⟨h4.first, ?_, h4.st, h4.srt, h4.bd, fun j x hj hx c hc => ?_⟩, ⟨_, e5⟩⟩
 ·rw [e5, List.length_append]
  omega
 ·rcases Nat.lt_or_ge j k with hlt | hge
  ·exact h4.done j x hlt hx c hc
  ·obtain rfl : j = k := by omega
   have hxe : x = e := by
    rw [e5, List.getElem?_append_left hkl, hk] at hx
    exact (Option.some.inj hx).symm
   subst hxe
   match c, hc with
   | 0, _ => exact ⟨x1, by show x1 ∈ WD.one T (WD.one T (WD.one T (WD.one T L x 0) x 1) x 2) x 3; rw [e4, e3, e2]; simp [m1], a1, b1⟩
   | 1, _ => exact ⟨x2, by show x2 ∈ WD.one T (WD.one T (WD.one T (WD.one T L x 0) x 1) x 2) x 3; rw [e4, e3]; simp [m2], a2, b2⟩
   | 2, _ => exact ⟨x3, by show x3 ∈ WD.one T (WD.one T (WD.one T (WD.one T L x 0) x 1) x 2) x 3; rw [e4]; simp [m3], a3, b3⟩
   | 3, _ => exact ⟨x4, m4, a4, b4⟩
theorem len_keys {β : Type} (key : β → Nat) (B : Nat) : ∀ (l : List β) (a : Nat), l ≠ [] → (l.Pairwise fun x y => key x < key y) → (∀ x ∈ l, a ≤ key x ∧ key x < B) → a + l.length ≤ B
 | [], _, h, _, _ => absurd rfl h
 | x :: l, a, _, hs, hb => by
  rw [List.pairwise_cons] at hs
  have hx := hb x (by simp)
  by_cases hl : l = []
  ·subst hl
   show a + 1 ≤ B
   omega
  ·have := len_keys key B l (a + 1) hl hs.2 fun y hy => by
    have h1 := hs.1 y hy;have h2 := hb y (by simp [hy])
    omega
   rw [List.length_cons]
   omega
theorem Inv.len {L : List (α × List Nat)} {k b : Nat} (h : Inv T t most L k b) : L.length ≤ av (most + 1) := by
 have := len_keys (fun e : α × List Nat => wv e.2) (av (most + 1)) L 0 (by obtain ⟨l, e⟩ := h.first; rw [e]; simp) h.srt fun x hx => by
  obtain ⟨_, h2, h3⟩ := h.st x hx;have h4 := wv_len _ x.2 rfl h2;have h5 := av_mono (show x.2.length + 1 ≤ most + 1 by omega)
  omega
 omega
structure Fin (L : List (α × List Nat)) : Prop where
 first : ∃ l, L = (t, []) :: l
 st : ∀ e ∈ L, e.1 = run T t e.2 ∧ okw e.2 ∧ e.2.length ≤ most
 srt : L.Pairwise fun e e' => wv e.2 < wv e'.2
 done : ∀ e ∈ L, e.2.length < most → ∀ d, d < 4 → ∃ e' ∈ L, e'.1 = T d e.1 ∧ wv e'.2 ≤ 4 * wv e.2 + d + 1
theorem loop_fin : ∀ (m k : Nat) (L : List (α × List Nat)) (b : Nat), av (most + 1) + 1 ≤ m + k → Inv T t most L k b → (∀ e, L[k]? = some e → b ≤ 4 * wv e.2 + 1) → Fin T t most (loop T most m k L)
 | 0, k, L, b, hm, h, hb => by
  have h1 := h.len;have h2 := h.kl
  omega
 | m + 1, k, L, b, hm, h, hb => by
  unfold loop
  cases hk : L[k]? with
  | none =>
   have hkl := List.getElem?_eq_none_iff.1 hk
   show Fin T t most L
   refine ⟨h.first, h.st, h.srt, fun e he _ d hd => ?_⟩
   obtain ⟨j, hj⟩ := List.getElem?_of_mem he;have := (List.getElem?_eq_some_iff.1 hj).1
   exact h.done j e (by omega) hj d hd
  | some e =>
   have hkl := (List.getElem?_eq_some_iff.1 hk).1;have he : e ∈ L := List.mem_of_getElem? hk
   show Fin T t most (if e.2.length = most then L else loop T most m (k + 1) (step4 T L e))
   by_cases hl : e.2.length = most
   ·rw [if_pos hl]
    refine ⟨h.first, h.st, h.srt, fun x hx hxl d hd => ?_⟩
    obtain ⟨j, hj⟩ := List.getElem?_of_mem hx
    rcases Nat.lt_or_ge j k with hlt | hge
    ·exact h.done j x hlt hj d hd
    ·exfalso
     have hjl := (List.getElem?_eq_some_iff.1 hj).1
     have hw : wv e.2 ≤ wv x.2 := by
      rcases Nat.eq_or_lt_of_le hge with e1 | hlt
      ·subst e1
       rw [hk] at hj
       rw [Option.some.inj hj]
       exact Nat.le_refl _
      ·have hp := List.pairwise_iff_getElem.1 h.srt k j hkl hjl hlt
       rw [(List.getElem?_eq_some_iff.1 hk).2, (List.getElem?_eq_some_iff.1 hj).2] at hp
       omega
     have := len_le (h.st x hx).2.1 (h.st e he).2.1 hw
     omega
   ·rw [if_neg hl]
    have hlt : e.2.length < most := by have := (h.st e he).2.2; omega
    have hbe := hb e hk;obtain ⟨h4, l, hl4⟩ := Inv.four T t most (e := e) ⟨h.first, h.kl, h.st, h.srt, fun x hx => by have := h.bd x hx; omega, h.done⟩ hk hlt
    refine loop_fin m (k + 1) (step4 T L e) (4 * wv e.2 + 5) (by omega) h4 fun e' hk' => ?_
    have hk4 : (step4 T L e)[k]? = some e := by rw [hl4, List.getElem?_append_left hkl, hk]
    obtain ⟨i1, i2⟩ := List.getElem?_eq_some_iff.1 hk4;obtain ⟨i3, i4⟩ := List.getElem?_eq_some_iff.1 hk';have hp := List.pairwise_iff_getElem.1 h4.srt k (k + 1) i1 i3 (by omega)
    rw [i2, i4] at hp
    omega
theorem start_inv : Inv T t most [(t, [])] 0 1 :=
 ⟨⟨[], rfl⟩, Nat.zero_le _, fun e he => by rw [List.mem_singleton.1 he]; exact ⟨rfl, (fun d hd => by cases hd), Nat.zero_le _⟩, List.pairwise_singleton _ _, fun e he => by rw [List.mem_singleton.1 he]; show 0 < 1; omega, fun j e hj => absurd hj (Nat.not_lt_zero _)⟩
theorem Fin.cover {L : List (α × List Nat)} (h : Fin T t most L) : ∀ (n : Nat) (w : List Nat), w.length = n → okw w → w.length ≤ most → ∃ e ∈ L, e.1 = run T t w ∧ wv e.2 ≤ wv w
 | 0, w, hl, _, _ => by
  obtain rfl := List.eq_nil_of_length_eq_zero hl;obtain ⟨l, e⟩ := h.first
  exact ⟨(t, []), by rw [e]; simp, rfl, Nat.le_refl _⟩
 | n + 1, w, hl, ho, hm => by
  rcases snoc_cases w with h0 | ⟨u, d, h0⟩
  ·subst h0
   cases hl
  ·subst h0
   rw [List.length_append, List.length_singleton] at hl hm
   have hou : okw u := fun x hx => ho x (by simp [hx])
   obtain ⟨e, he, h1, h2⟩ := Fin.cover h n u (by omega) hou (by omega);have h3 := len_le hou (h.st e he).2.1 h2;obtain ⟨e', he', h4, h5⟩ := h.done e he (by omega) d (ho d (by simp))
   exact ⟨e', he', by rw [h4, h1, run_snoc], by rw [wv_snoc]; omega⟩
theorem find_least {β : Type} (key : β → Nat) (p : β → Bool) : ∀ (l : List β), (l.Pairwise fun a b => key a < key b) → ∀ v, l.find? p = some v → ∀ u ∈ l, p u = true → key v ≤ key u
 | [], _, v, h, _, _, _ => by cases h
 | a :: l, hs, v, h, u, hu, hp => by
  rw [List.pairwise_cons] at hs
  by_cases ha : p a = true
  ·rw [List.find?_cons_of_pos ha] at h
   obtain rfl := Option.some.inj h
   rcases List.mem_cons.1 hu with e | hu
   ·rw [e]
    exact Nat.le_refl _
   ·exact Nat.le_of_lt (hs.1 u hu)
  ·rw [List.find?_cons_of_neg ha] at h
   rcases List.mem_cons.1 hu with e | hu
   ·subst e
    exact absurd hp ha
   ·exact find_least key p l hs.2 v h u hu hp
theorem Fin.find {L : List (α × List Nat)} (h : Fin T t most L) (P : α → Bool) : (allw most).find? (fun w => P (run T t w)) = (L.find? fun e => P e.1).map Prod.snd := by
 cases hf : L.find? fun e => P e.1 with
 | none =>
  refine List.find?_eq_none.2 fun u hu hp => ?_
  obtain ⟨h1, h2⟩ := mem_allw.1 hu;obtain ⟨e, he, h3, _⟩ := Fin.cover T t most h _ u rfl h2 h1
  exact List.find?_eq_none.1 hf e he (by rw [h3]; exact hp)
 | some e =>
  have he := List.mem_of_find?_eq_some hf
  have hp : P e.1 = true := by have := List.find?_some hf; exact this
  obtain ⟨h1, h2, h3⟩ := h.st e he
  show _ = some e.2
  refine find_sorted wv _ (allw most) (allw_sorted most) e.2 (mem_allw.2 ⟨h3, h2⟩) (by rw [← h1]; exact hp) fun u hu hpu => ?_
  obtain ⟨h4, h5⟩ := mem_allw.1 hu;obtain ⟨e', he', h6, h7⟩ := Fin.cover T t most h _ u rfl h5 h4;have := find_least (fun e : α × List Nat => wv e.2) (fun e => P e.1) L h.srt e hf e' he' (by show P e'.1 = true; rw [h6]; exact hpu)
  omega
end
end WD
namespace WD
def wordS (w : List Nat) : ByteArray := strOfNums (w.map dirC)
theorem strN_append (a b : List Int) : strOfNums a ++ strOfNums b = strOfNums (a ++ b) := by
 apply ByteArray.ext
 unfold strOfNums
 rw [ByteArray.data_append]
 simp [List.map_append]
theorem kid_word (w : List Nat) (d : Nat) : kid (wordS w) (dirC d) = wordS (w ++ [d]) := by
 unfold kid wordS
 rw [strN_append, List.map_append]
 rfl
theorem kids_word (w : List Nat) : kidsL (wordS w) dirs4 = (four w).map wordS := by
 show [kid (wordS w) (dirC 0), kid (wordS w) (dirC 1), kid (wordS w) (dirC 2), kid (wordS w) (dirC 3)] = _
 rw [kid_word, kid_word, kid_word, kid_word]
 rfl
theorem wRow_find (p : ByteArray → Option Bool) (P : List Nat → Bool) (K : List ByteArray → Option (Option ByteArray)) : ∀ (l : List (List Nat)) (nx : List ByteArray), (∀ w ∈ l, p (wordS w) = some (P w)) →
  wRow p K (l.map wordS) nx = match l.find? P with
   | some w => some (some (wordS w))
   | none => K (nx ++ (l.flatMap four).map wordS)
 | [], nx, _ => by
  show K nx = K (nx ++ [])
  rw [List.append_nil]
 | w :: l, nx, h => by
  show ((p (wordS w)).bind fun b => if b = true then some (some (wordS w)) else wRow p K (l.map wordS) (nx ++ kidsL (wordS w) dirs4)) = _
  rw [h w (by simp), Option.bind_some]
  by_cases hp : P w = true
  ·rw [if_pos hp, List.find?_cons_of_pos hp]
  ·rw [if_neg hp, List.find?_cons_of_neg hp, wRow_find p P K l _ fun u hu => h u (by simp [hu]), kids_word]
   simp only [List.flatMap_cons, List.map_append, List.append_assoc]
theorem wLev_find (p : ByteArray → Option Bool) (P : List Nat → Bool) (most : Nat) (h : ∀ w, okw w → w.length ≤ most → p (wordS w) = some (P w)) : ∀ (m n : Nat), m + n = most + 1 →
  wLev p m ((lev n).map wordS) = some ((((List.range' n m).flatMap lev).find? P).map wordS)
 | 0, n, _ => rfl
 | m + 1, n, e => by
  show wRow p (wLev p m) ((lev n).map wordS) [] = _
  rw [wRow_find p P _ (lev n) [] fun w hw => by
   obtain ⟨h1, h2⟩ := (mem_lev n w).1 hw
   exact h w h2 (by omega)]
  rw [List.range'_succ, List.flatMap_cons, List.find?_append]
  cases hf : (lev n).find? P with
  | some w => rfl
  | none =>
   rw [List.nil_append]
   show wLev p m ((lev (n + 1)).map wordS) = _
   rw [wLev_find p P most h m (n + 1) (by omega)]
   rfl
theorem words_find (p : ByteArray → Option Bool) (P : List Nat → Bool) (h : ∀ w, okw w → w.length ≤ 5 → p (wordS w) = some (P w)) : wLev p 6 [⟨#[]⟩] = some (((allw 5).find? P).map wordS) := by
 have h1 := wLev_find p P 5 h 6 0 rfl
 rw [← List.range_eq_range'] at h1
 exact h1
end WD
end Go.Proofs.YtkjlfgceodindaaDoor.Q
end
section
namespace Go.Proofs.YtkjlfgceodindaaDoor.Q
open Go.RowKit Go.Proofs.YtkjlfgceodindaaDoorW.PrintWords Go.Proofs.YtkjlfgceodindaaDoorW.PrintLast Go.Proofs.YtkjlfgceodindaaDoorW.PrintMore
theorem dw_nil {α : Type} (p : α → Bool) : ∀ l : List α, l.dropWhile p = [] ↔ ∀ b ∈ l, p b = true
 | [] => by simp
 | b :: l => by
  rw [List.dropWhile_cons]
  by_cases h : p b = true
  ·rw [if_pos h, dw_nil p l]
   simp [h]
  ·rw [if_neg h]
   simp [h]
theorem dw_all {α : Type} (p : α → Bool) : ∀ l : List α, (∀ b ∈ l.dropWhile p, p b = true) → ∀ b ∈ l, p b = true
 | [], _ => by simp
 | b :: l, h => by
  rw [List.dropWhile_cons] at h
  by_cases hb : p b = true
  ·rw [if_pos hb] at h
   have ih := dw_all p l h
   simpa [hb] using ih
  ·rw [if_neg hb] at h
   exact h
theorem trimS_nil (l cs : List UInt8) : Lib.trimS l cs = [] ↔ ∀ b ∈ l, cs.contains b = true := by
 unfold Lib.trimS Lib.trimLeftS Lib.trimRightS
 rw [dw_nil]
 constructor
 ·intro h
  have h2 := dw_all (cs.contains ·) l.reverse (fun b hb => h b (by simpa using hb))
  exact fun b hb => h2 b (by simpa using hb)
 ·intro h b hb
  rw [List.mem_reverse] at hb
  exact h b (by simpa using (List.dropWhile_sublist _).subset hb)
theorem trim_tell (s cut : ByteArray) (hs : s.size ≤ 1048576) (hc : cut.size < 100) (ha : asciiB cut.data.toList = true) :
  ∃ t, strings_Trim.f s cut = some t ∧ (t.toList = [] ↔ ∀ b ∈ s.data.toList, cut.data.toList.contains b = true) := by
 refine ⟨_, if_pos ⟨by omega, by omega, ha⟩, ?_⟩
 rw [← trimS_nil]
 generalize Lib.trimS s.data.toList cut.data.toList = l;have e : (⟨l.toArray⟩ : ByteArray).toList = l := ByteArray.toList_mk l
 rw [e]
theorem encode_name : ∀ n : Fin 6, Utf8.encode (97 + (n.val : Int)) = ⟨#[UInt8.ofNat (97 + n.val)]⟩ := by decide +kernel
theorem count_name (s : ByteArray) (n : Nat) (h1 : 97 ≤ n) (h2 : n ≤ 102) : (runeS.f (n : Int)).bind (fun t => strings_Count.f s t) = some ((s.data.toList.count (UInt8.ofNat n) : Nat) : Int) := by
 have h := encode_name ⟨n - 97, by omega⟩
 simp only [show (97 + ((n - 97 : Nat) : Int)) = (n : Int) by omega, show 97 + (n - 97) = n by omega] at h
 unfold runeS.f
 rw [Option.bind_some, h]
 rfl
theorem it_l1 (s : ByteArray) : ∀ (m n : Nat), 97 ≤ n → n + m = 103 → ∀ R : Bool, (R = true ↔ ∀ c : Nat, n ≤ c → c ≤ 102 → s.data.toList.count (UInt8.ofNat c) ≤ 1) → Ev (fun k => impl_IsTray.l1 k s n) R
 | 0, n, h1, h2, R, hR => by
  obtain rfl : R = true := hR.2 fun c h3 h4 => by omega
  refine Ev.step (Ev.const (o := some true) rfl) fun k => ?_
  rw [impl_IsTray.l1, if_neg (by omega)]
 | m + 1, n, h1, h2, R, hR => by
  have hc := count_name s n h1 (by omega);obtain ⟨t, e1, e2⟩ := Option.bind_eq_some_iff.1 hc
  have hw : wrap32 ((n : Int) + 1) = ((n + 1 : Nat) : Int) := by unfold wrap32; omega
  by_cases hn : s.data.toList.count (UInt8.ofNat n) ≤ 1
  ·have ih := it_l1 s m (n + 1) (by omega) (by omega) R (hR.trans ⟨fun h c h3 h4 => h c (by omega) h4, fun h c h3 h4 => by
    by_cases h5 : n = c
    ·rw [← h5]; exact hn
    ·exact h c (by omega) h4⟩)
   refine Ev.step ih fun k => ?_
   rw [impl_IsTray.l1, if_pos (by omega), e1, Option.bind_some, e2, Option.bind_some, if_neg (by omega), hw]
  ·obtain rfl : R = false := Bool.eq_false_iff.2 fun h => hn (hR.1 h n (Nat.le_refl _) (by omega))
   refine Ev.step (Ev.const (o := some false) rfl) fun k => ?_
   rw [impl_IsTray.l1, if_pos (by omega), e1, Option.bind_some, e2, Option.bind_some, if_pos (by omega)]
theorem named_count (s : ByteArray) : namedOK (ints (rows 47 s.data.toList).flatten) ↔ ∀ c : Nat, 97 ≤ c → c ≤ 102 → s.data.toList.count (UInt8.ofNat c) ≤ 1 := by
 have h : ∀ c : Nat, 97 ≤ c → c ≤ 102 → (ints (rows 47 s.data.toList).flatten).count (c : Int) = s.data.toList.count (UInt8.ofNat c) := by
  intro c h1 h2
  have e : ((UInt8.ofNat c).toNat : Int) = c := by
   rw [UInt8.toNat_ofNat']
   omega
  rw [← e, ints_count, rows_count 47 (UInt8.ofNat c)]
  intro e2;have := congrArg UInt8.toNat e2
  rw [UInt8.toNat_ofNat'] at this
  have h47 : (47 : UInt8).toNat = 47 := rfl
  omega
 constructor
 ·intro h1 c h2 h3
  rw [← h c h2 h3]
  exact h1 c (by omega) (by omega)
 ·intro h1 c h2 h3
  have h4 := h c.toNat (by omega) (by omega)
  rw [show ((c.toNat : Nat) : Int) = c by omega] at h4
  rw [h4]
  exact h1 _ (by omega) (by omega)
theorem within_eq (a lo hi : Int) : impl_within.f a lo hi = some (decide (lo ≤ a ∧ a ≤ hi)) := by
 unfold impl_within.f
 by_cases h : lo ≤ a
 ·rw [if_pos h]
  simp [h]
 ·rw [if_neg h]
  simp [h]
theorem isSize_eq (w h : Nat) (hw : w ≤ 1048576) (hh : h ≤ 1048577) : impl_isSize.f w h = some (decide (1 ≤ w ∧ w ≤ 7 ∧ 1 ≤ h ∧ h ≤ 7 ∧ w * h ≤ 36)) := by
 unfold impl_isSize.f
 rw [within_eq, Option.bind_some]
 by_cases h1 : 1 ≤ w ∧ w ≤ 7
 ·rw [decide_eq_true (by omega), if_pos rfl, within_eq, Option.bind_some]
  by_cases h2 : 1 ≤ h ∧ h ≤ 7
  ·rw [decide_eq_true (by omega), if_pos rfl]
   have h3 : w * h ≤ 7 * 7 := Nat.mul_le_mul h1.2 h2.2
   have e : wrap64 ((w : Int) * h) = ((w * h : Nat) : Int) := by
    rw [← Int.natCast_mul]
    exact w64 (by omega) (by omega)
   rw [e]
   congr 1
   exact decide_eq_decide.2 ⟨fun h => ⟨h1.1, h1.2, h2.1, h2.2, by omega⟩, fun h => by omega⟩
  ·rw [decide_eq_false (by omega), if_neg (by decide), decide_eq_false (by omega)]
 ·rw [decide_eq_false (by omega), if_neg (by decide), decide_eq_false (by omega)]
theorem rowsL_len (s : ByteArray) : (rowsL s).length = (rows 47 s.data.toList).length := by rw [← rowsL_map, List.length_map]
theorem rowsL_drop (s : ByteArray) (i : Nat) (h : i < (rowsL s).length) : (rows 47 s.data.toList).drop i = (rdOf ByteArray.empty (rowsL s) (i : Int)).data.toList :: (rows 47 s.data.toList).drop (i + 1) := by
 rw [← rowsL_map]
 have h2 : i < ((rowsL s).map (·.data.toList)).length := by rw [List.length_map]; exact h
 rw [List.drop_eq_getElem_cons h2]
 congr 1
 unfold rdOf
 rw [List.getElem_map, Int.toNat_natCast, List.getD_eq_getElem?_getD, List.getElem?_eq_getElem h]
 rfl
theorem rowsL_tw (s : ByteArray) (h : 0 < (rowsL s).length) : (rdOf ByteArray.empty (rowsL s) 0).size = tw (rows 47 s.data.toList) := by
 have e := rowsL_drop s 0 h
 rw [List.drop_zero] at e
 unfold tw
 rw [e, List.headD_cons, data_length]
 rfl
theorem rows_le (c : UInt8) (l r : List UInt8) (h : r ∈ rows c l) : r.length ≤ l.length := by
 have h1 := rows_flat c l;have h2 : r.length ≤ (rows c l).flatten.length := (List.sublist_flatten_of_mem h).length_le
 omega
def cutAll : ByteArray := ⟨#[35, 46, 111, 97, 98, 99, 100, 101, 102]⟩
theorem it_l0 (s : ByteArray) (hs : s.size ≤ 1048576) (w : Nat) (hw : (rdOf ByteArray.empty (rowsL s) 0).size = w) (K : Bool) (hK : Ev (fun k => impl_IsTray.l1 k s 97) K) :
  ∀ (m i : Nat), i + m = (rowsL s).length → Ev (fun k => impl_IsTray.l0 k s (rowsL s) (rowsL s) (rowsL s).length i) (if evenRows w ((rows 47 s.data.toList).drop i) then K else false)
 | 0, i, hi => by
  have e : (rows 47 s.data.toList).drop i = [] := List.drop_eq_nil_of_le (by rw [← rowsL_len]; omega)
  rw [e, if_pos (show evenRows w [] from fun r hr => by simp at hr)]
  refine Ev.step hK fun k => ?_
  rw [impl_IsTray.l0, if_neg (by omega)]
 | m + 1, i, hi => by
  have ih := it_l0 s hs w hw K hK m (i + 1) (by omega)
  have hlt : i < (rowsL s).length := by omega
  have hlen : (rowsL s).length ≤ 1048577 := by
   have h1 := rows_size 47 s.data.toList;have h2 := data_length s
   rw [rowsL_len]
   omega
  have hd := rowsL_drop s i hlt;have hrow : (rdOf ByteArray.empty (rowsL s) (i : Int)).data.toList ∈ rows 47 s.data.toList := (List.drop_sublist i _).subset (by rw [hd]; exact List.mem_cons_self)
  have hsz : (rdOf ByteArray.empty (rowsL s) (i : Int)).size ≤ 1048576 := by
   have h1 := rows_le 47 _ _ hrow
   rw [data_length, data_length] at h1
   omega
  have hwr : wrap64 ((i : Int) + 1) = ((i + 1 : Nat) : Int) := by rw [w64 (by omega) (by omega)]; omega
  rw [hd]
  generalize hrw : rdOf ByteArray.empty (rowsL s) (i : Int) = row at hsz hd ⊢;obtain ⟨t, et, ht⟩ := trim_tell row cutAll hsz (by decide) (by decide)
  have hcell : (∀ b ∈ row.data.toList, cutAll.data.toList.contains b = true) ↔ row.data.toList.all isCellB = true := by
   rw [List.all_eq_true]
   rfl
  rw [ite_iff ((evenRows_cons w row.data.toList ((rows 47 s.data.toList).drop (i + 1))).trans (show _ ↔ (row.size = w ∧ t.toList = []) ∧ evenRows w ((rows 47 s.data.toList).drop (i + 1)) by rw [← hcell, ← ht, data_length]))]
  by_cases h1 : row.size = w
  ·by_cases h2 : t.toList = []
   ·rw [ite_iff (show ((row.size = w ∧ t.toList = []) ∧ evenRows w ((rows 47 s.data.toList).drop (i + 1))) ↔ evenRows w ((rows 47 s.data.toList).drop (i + 1)) from ⟨fun h => h.2, fun h => ⟨⟨h1, h2⟩, h⟩⟩)]
    refine Ev.step ih fun k => ?_
    rw [impl_IsTray.l0, if_pos (by omega), if_pos (by omega), if_pos (by omega), if_pos (by omega), hrw, hw, if_pos (by omega)]
    show (strings_Trim.f row cutAll).bind _ = _
    rw [et, Option.bind_some, if_pos h2, hwr]
   ·rw [if_neg fun h => h2 h.1.2]
    refine Ev.step (Ev.const (o := some false) rfl) fun k => ?_
    rw [impl_IsTray.l0, if_pos (by omega), if_pos (by omega), if_pos (by omega), if_pos (by omega), hrw, hw, if_pos (by omega)]
    show (strings_Trim.f row cutAll).bind _ = _
    rw [et, Option.bind_some, if_neg h2]
  ·rw [if_neg fun h => h1 h.1.1]
   refine Ev.step (Ev.const (o := some false) rfl) fun k => ?_
   rw [impl_IsTray.l0, if_pos (by omega), if_pos (by omega), if_pos (by omega), if_pos (by omega), hrw, hw, if_neg (by omega)]
theorem isTray_ev (s : ByteArray) (hs : s.size ≤ 1048576) : Ev (fun k => impl_IsTray.f k s) (trayOf s).isSome := by
 have h1 := rows_size 47 s.data.toList;have h2 := data_length s;have h3 := rowsL_len s
 have hne : 0 < (rowsL s).length := by
  rw [h3]
  exact List.length_pos_iff.2 (rows_ne 47 _)
 have hw := rowsL_tw s hne
 have hwle : tw (rows 47 s.data.toList) ≤ 1048576 := by
  have e := rowsL_drop s 0 hne
  rw [List.drop_zero] at e
  have := rows_le 47 s.data.toList _ (by rw [e]; exact List.mem_cons_self)
  rw [data_length, data_length] at this
  have h4 : (rdOf ByteArray.empty (rowsL s) ((0 : Nat) : Int)).size = (rdOf ByteArray.empty (rowsL s) 0).size := rfl
  omega
 have hsp : strings_Split.f s ⟨#[47]⟩ = some (rowsL s) := if_pos ⟨by omega, by decide⟩;have hss := isSize_eq (tw (rows 47 s.data.toList)) (rowsL s).length hwle (by omega)
 have hf : ∀ k, impl_IsTray.f k s = if decide (1 ≤ tw (rows 47 s.data.toList) ∧ tw (rows 47 s.data.toList) ≤ 7 ∧ 1 ≤ (rowsL s).length ∧ (rowsL s).length ≤ 7 ∧ tw (rows 47 s.data.toList) * (rowsL s).length ≤ 36) = true then impl_IsTray.l0 k s (rowsL s) (rowsL s) (rowsL s).length 0 else some false := by
  intro k;unfold impl_IsTray.f
  rw [hsp, Option.bind_some, if_pos (by omega), hw, hss, Option.bind_some]
 refine Ev.congr ?_ hf
 unfold trayOf trayRows
 by_cases hc : 1 ≤ tw (rows 47 s.data.toList) ∧ tw (rows 47 s.data.toList) ≤ 7 ∧ 1 ≤ (rowsL s).length ∧ (rowsL s).length ≤ 7 ∧ tw (rows 47 s.data.toList) * (rowsL s).length ≤ 36
 ·rw [decide_eq_true hc]
  refine Ev.congr ?_ (fun k => if_pos rfl)
  have h5 := it_l0 s hs _ hw (decide (namedOK (ints (rows 47 s.data.toList).flatten))) (it_l1 s 6 97 (by omega) (by omega) _ (by rw [decide_eq_true_iff]; exact named_count s)) (rowsL s).length 0 (by omega)
  rw [List.drop_zero] at h5
  have e : (if okRows (rows 47 s.data.toList) then some ((tw (rows 47 s.data.toList) : Int), ((rows 47 s.data.toList).length : Int), ints (rows 47 s.data.toList).flatten) else none).isSome =
    if evenRows (tw (rows 47 s.data.toList)) (rows 47 s.data.toList) then decide (namedOK (ints (rows 47 s.data.toList).flatten)) else false := by
   by_cases h6 : evenRows (tw (rows 47 s.data.toList)) (rows 47 s.data.toList)
   ·by_cases h7 : namedOK (ints (rows 47 s.data.toList).flatten)
    ·rw [if_pos h6, if_pos (show okRows _ from ⟨by rw [h3] at hc; omega, h6, h7⟩), decide_eq_true h7]
     rfl
    ·rw [if_pos h6, if_neg fun h => h7 h.2.2, decide_eq_false h7]
     rfl
   ·rw [if_neg h6, if_neg fun h => h6 h.2.1]
    rfl
  rw [e]
  exact h5
 ·rw [if_neg fun h => hc (by have h4 := h.1; rw [h3]; omega), decide_eq_false hc]
  exact Ev.congr (Ev.const (o := some false) rfl) (fun k => if_neg (by decide))
theorem joined_ints (s : ByteArray) : bytesOf (joinedB s) = ints (rows 47 s.data.toList).flatten := by
 unfold bytesOf ints
 rw [joinedB_list]
theorem trayOf_row (s : ByteArray) : trayOf s = none ∨ (s.size ≤ 42 ∧ impl_read.f s = trayOf s) := by
 rcases h : trayOf s with _ | t
 ·exact Or.inl rfl
 ·have hs := trayOf_small s (by rw [h]; exact fun e => nomatch e)
  refine Or.inr ⟨hs, ?_⟩
  rw [← h]
  have hne : 0 < (rowsL s).length := by
   rw [rowsL_len]
   exact List.length_pos_iff.2 (rows_ne 47 _)
  have hw := rowsL_tw s hne;unfold trayOf trayRows at h ⊢
  split at h
  ·rename_i hk
   rw [if_pos hk]
   unfold impl_read.f
   rw [if_pos (by omega), joined_ints, rowsL_len, ← hw]
   rfl
  ·cases h
theorem trayOf_some {s : ByteArray} {t : Int × Int × List Int} (ht : trayOf s = some t) : ∃ w h : Nat, t = ((w : Int), (h : Int), ints (rows 47 s.data.toList).flatten) ∧ 1 ≤ w ∧ w ≤ 7 ∧ 1 ≤ h ∧ h ≤ 7 ∧ w * h ≤ 36 ∧ (ints (rows 47 s.data.toList).flatten).length = w * h := by
 unfold trayOf trayRows at ht
 split at ht
 ·rename_i hk
  have h1 := evenRows_flat _ _ hk.2.1;have h2 := List.length_pos_iff.2 (rows_ne 47 s.data.toList);have h3 := hk.1
  refine ⟨_, _, (Option.some.inj ht).symm, h3.1, h3.2.1, by omega, h3.2.2.1, h3.2.2.2, ?_⟩
  rw [ints_length, h1]
 ·cases ht
theorem tray_parts {s : ByteArray} {t : Int × Int × List Int} (ht : trayOf s = some t) : ∃ (w h : Nat) (cs : List Int), t = ((w : Int), (h : Int), cs) ∧ 1 ≤ w ∧ w ≤ 7 ∧ 1 ≤ h ∧ h ≤ 7 ∧ w * h ≤ 36 ∧ cs.length = w * h := by
 obtain ⟨w, h, e, h1, h2, h3, h4, h5, h6⟩ := trayOf_some ht
 exact ⟨w, h, _, e, h1, h2, h3, h4, h5, h6⟩
theorem tray_read {s : ByteArray} {t : Int × Int × List Int} (ht : trayOf s = some t) : impl_read.f s = some t := by
 rw [← ht]
 exact ((trayOf_row s).resolve_left (by rw [ht]; exact fun e => nomatch e)).2
end Go.Proofs.YtkjlfgceodindaaDoor.Q
end
section
namespace Go.Proofs.YtkjlfgceodindaaDoor.Q
set_option linter.unusedSectionVars false
open Go.RowKit Go.Proofs.YtkjlfgceodindaaDoorW.PrintWords Go.Proofs.YtkjlfgceodindaaDoorW.PrintLast Go.Proofs.YtkjlfgceodindaaDoorW.PrintMore
theorem toList_data (s : ByteArray) : s.toList = s.data.toList := by
 obtain ⟨⟨l⟩⟩ := s
 exact ByteArray.toList_mk l
end Go.Proofs.YtkjlfgceodindaaDoor.Q
end
section
namespace Go.Proofs.YtkjlfgceodindaaDoor.Q
open Go.RowKit Go.Proofs.YtkjlfgceodindaaDoorW.PrintWords Go.Proofs.YtkjlfgceodindaaDoorW.PrintLast Go.Proofs.YtkjlfgceodindaaDoorW.PrintMore
attribute [local go_sem] max2_int min2_int max_two min_two max_three min_three max_four min_four
set_option linter.unusedVariables false
set_option linter.unusedSimpArgs false
def spec_tyText.l0 : Nat → ByteArray → Int → Int → Int → List Int → Option (ByteArray)
 | 0, _, _, _, _, _ => none
 | k + 1, x3, x4, x102000, x102001, x102002 => if x4 < x102001 then (if x4 > 0 then (if x3.size + 1 ≤ 9223372036854775807 then (if 0 ≤ (wrap64 (x4 * x102000)) then (if (wrap64 (x4 * x102000)) ≤ (wrap64 ((wrap64 (x4 + 1)) * x102000)) then (if (wrap64 ((wrap64 (x4 + 1)) * x102000)) ≤ (x102002.length : Int) then (if (x3 ++ (⟨#[47]⟩ : ByteArray)).size + (strOfNums ((x102002.take ((wrap64 ((wrap64 (x4 + 1)) * x102000)) : Int).toNat).drop ((wrap64 (x4 * x102000)) : Int).toNat)).size ≤ 9223372036854775807 then (spec_tyText.l0 k ((x3 ++ (⟨#[47]⟩ : ByteArray)) ++ (strOfNums ((x102002.take ((wrap64 ((wrap64 (x4 + 1)) * x102000)) : Int).toNat).drop ((wrap64 (x4 * x102000)) : Int).toNat))) (wrap64 (x4 + 1)) x102000 x102001 x102002) else (none)) else (none)) else (none)) else (none)) else (none)) else (if 0 ≤ (wrap64 (x4 * x102000)) then (if (wrap64 (x4 * x102000)) ≤ (wrap64 ((wrap64 (x4 + 1)) * x102000)) then (if (wrap64 ((wrap64 (x4 + 1)) * x102000)) ≤ (x102002.length : Int) then (if x3.size + (strOfNums ((x102002.take ((wrap64 ((wrap64 (x4 + 1)) * x102000)) : Int).toNat).drop ((wrap64 (x4 * x102000)) : Int).toNat)).size ≤ 9223372036854775807 then (spec_tyText.l0 k (x3 ++ (strOfNums ((x102002.take ((wrap64 ((wrap64 (x4 + 1)) * x102000)) : Int).toNat).drop ((wrap64 (x4 * x102000)) : Int).toNat))) (wrap64 (x4 + 1)) x102000 x102001 x102002) else (none)) else (none)) else (none)) else (none))) else (some x3)
def spec_tyText.f (k : Nat) (a0_0 : Int) (a0_1 : Int) (l0_2 : List Int) : Option (ByteArray) := spec_tyText.l0 k (⟨#[]⟩ : ByteArray) 0 a0_0 a0_1 l0_2
set_option maxHeartbeats 8000000 in
set_option maxRecDepth 100000 in
theorem spec_tyText.calls (k : Nat) (a0_0 : Int) (a0_1 : Int) (A0_2 : Option Addr) (c0_2 : Nat) (l0_2 : List Int) (r : ByteArray) (w : World) (hr0_2 : Kd.C (Kd.int .u8) w A0_2 l0_2.length l0_2) (hc0_2 : l0_2.length ≤ c0_2) (h : spec_tyText.f k a0_0 a0_1 l0_2 = some r) :
  Calls Tryd.prog 36 #[.agg #[.int .i64 a0_0, .int .i64 a0_1, .slice A0_2 l0_2.length c0_2]] w fun e w' => e = .returned (.string r) ∧ Below w.heap.size w w' := by
 have hu30 := Tryd.underlying30;have HR0_2 := Aside0.mk hr0_2;have HC0_2 := Aside0.mk hc0_2;clear hr0_2 hc0_2;have HB := Aside0.mk (Below.refl w.heap.size w);have H : (spec_tyText.l0 k (⟨#[]⟩ : ByteArray) 0 a0_0 a0_1 l0_2) = some r := h;clear h;have H' := Aside0.mk H;clear H
 go_enter Tryd.func36, Tryd.ntmps36
 go_wp2_with (first | ((with_reducible refine gate_dst (N := 1) rfl ?_); refine boxE (N := 1) (cs := #[.int .i64 a0_0, .int .i64 a0_1, .slice A0_2 l0_2.length c0_2]) (t := 30) ?_; intro gb101 hg w2 hbox hb; have n0_ := Aside0.mk (below_step (bel HB) hb); have n1_ := Aside0.mk (hbox); have n2_ := Aside0.mk (gsz hg (bel HB)); have n3_ := Aside0.mk (gsz hg (bel HB)); clear HB; have HB := n0_; have BK101 := n1_; have GW101 := n2_; have GE101 := n3_; clear n0_ n1_ n2_ n3_; clear hb hbox hg))
 go_loopg [3, 4] k (fun kq v3 v4 w' => ∃ (x3_1 : ByteArray) (x4_1 : Int), v3 = .string x3_1 ∧ v4 = .int .i64 x4_1 ∧ Aside0 (spec_tyText.l0 kq x3_1 x4_1 a0_0 a0_1 l0_2 = some r) ∧ Aside0 (kq ≤ k) ∧ Aside0 (w'.heap[gb101]? = some (.cells #[.int .i64 a0_0, .int .i64 a0_1, (.slice A0_2 l0_2.length c0_2)] 30 (0, 0))) ∧ Aside0 (Below w.heap.size w w'))
 case atStart => exact ⟨((⟨#[]⟩ : ByteArray)), (0), (by first | rfl | (simp; done) | (simp [*]; done)), (by first | rfl | (simp; done) | (simp [*]; done)), H', ⟨Nat.le_refl _⟩, ⟨blc⟩, ⟨bel HB⟩⟩
 case round =>
  clear H'
  try clear p2
  obtain ⟨x3_1, x4_1, rfl, rfl, HA, HK1, BK101, HB⟩ := hrel
  cases gk with
  | zero => exact absurd HA.out (by simp [spec_tyText.l0])
  | succ k1 =>
   have H := HA.out;clear HA
   simp only [spec_tyText.l0] at H
   by_cases c3 : x4_1 < a0_1
   ·rw [if_pos c3] at H
    have c3b0 : decide (x4_1 < a0_1) = true := decide_eq_true c3;clear c3
    by_cases c4 : x4_1 > 0
    ·rw [if_pos c4] at H
     have c4b0 : decide (0 < x4_1) = true := decide_eq_true c4;clear c4
     by_cases c5 : x3_1.size + 1 ≤ 9223372036854775807
     ·rw [if_pos c5] at H
      have c5b0 := eq_true c5;have c5b1 : decide (x3_1.size + 1 ≤ 9223372036854775807) = true := decide_eq_true c5
      try have c5b2 : (9223372036854775807 < x3_1.size + 1) = False := eq_false (Nat.not_lt.2 c5)
      obtain ⟨ji6, hji6⟩ : ∃ j_ : Int, (wrap64 (x4_1 * a0_0)) = j_ := ⟨_, rfl⟩
      replace H : (if 0 ≤ (ji6) then (if (ji6) ≤ (wrap64 ((wrap64 (x4_1 + 1)) * a0_0)) then (if (wrap64 ((wrap64 (x4_1 + 1)) * a0_0)) ≤ (l0_2.length : Int) then (if (x3_1 ++ (⟨#[47]⟩ : ByteArray)).size + (strOfNums ((l0_2.take ((wrap64 ((wrap64 (x4_1 + 1)) * a0_0)) : Int).toNat).drop ((ji6) : Int).toNat)).size ≤ 9223372036854775807 then (spec_tyText.l0 k1 ((x3_1 ++ (⟨#[47]⟩ : ByteArray)) ++ (strOfNums ((l0_2.take ((wrap64 ((wrap64 (x4_1 + 1)) * a0_0)) : Int).toNat).drop ((ji6) : Int).toNat))) (wrap64 (x4_1 + 1)) a0_0 a0_1 l0_2) else (none)) else (none)) else (none)) else (none)) = some r := by first | (rw [hji6] at H; exact H) | (simp only [hji6] at H ⊢; exact H)
      have hji6w : (IntKind.i64.wrap (x4_1 * a0_0)) = ji6 := (i64_w _).trans hji6
      by_cases c7 : 0 ≤ (ji6)
      ·rw [if_pos c7] at H
       have c7b0 := eq_true c7;have c7b1 : decide (0 ≤ (ji6)) = true := decide_eq_true c7;clear c7
       by_cases c8 : (ji6) ≤ (wrap64 ((wrap64 (x4_1 + 1)) * a0_0))
       ·rw [if_pos c8] at H
        have c8b0 := eq_true c8;have c8b1 : decide ((ji6) ≤ (wrap64 ((wrap64 (x4_1 + 1)) * a0_0))) = true := decide_eq_true c8
        by_cases c9 : (wrap64 ((wrap64 (x4_1 + 1)) * a0_0)) ≤ (l0_2.length : Int)
        ·rw [if_pos c9] at H
         have c9b0 := eq_true c9;have c9b1 : decide ((wrap64 ((wrap64 (x4_1 + 1)) * a0_0)) ≤ (l0_2.length : Int)) = true := decide_eq_true c9
         by_cases c10 : (x3_1 ++ (⟨#[47]⟩ : ByteArray)).size + (strOfNums ((l0_2.take ((wrap64 ((wrap64 (x4_1 + 1)) * a0_0)) : Int).toNat).drop ((ji6) : Int).toNat)).size ≤ 9223372036854775807
         ·rw [if_pos c10] at H
          have c10b0 := eq_true c10;have c10b1 : decide ((x3_1 ++ (⟨#[47]⟩ : ByteArray)).size + (strOfNums ((l0_2.take ((wrap64 ((wrap64 (x4_1 + 1)) * a0_0)) : Int).toNat).drop ((ji6) : Int).toNat)).size ≤ 9223372036854775807) = true := decide_eq_true c10
          try have c10b2 : (9223372036854775807 < (x3_1 ++ (⟨#[47]⟩ : ByteArray)).size + (strOfNums ((l0_2.take ((wrap64 ((wrap64 (x4_1 + 1)) * a0_0)) : Int).toNat).drop ((ji6) : Int).toNat)).size) = False := eq_false (Nat.not_lt.2 c10)
          try have c10b3 : (9223372036854775807 < x3_1.size + 1 + (strOfNums ((l0_2.take ((wrap64 ((wrap64 (x4_1 + 1)) * a0_0)) : Int).toNat).drop ((ji6) : Int).toNat)).size) = False := eq_false (Nat.not_lt.2 (by simp only [ByteArray.size_append] at c10; exact c10))
          have H' := Aside0.mk H;clear H;have hcz11_0 : wr.cell? ⟨gb101, 0, none⟩ = some (.int .i64 a0_0) := (blk_cell BK101.out 0).trans rfl;have hcz11_1 : wr.cell? ⟨gb101, 1, none⟩ = some (.int .i64 a0_1) := (blk_cell BK101.out 1).trans rfl;have hcz11_2 : wr.cell? ⟨gb101, 2, none⟩ = some (.slice A0_2 l0_2.length c0_2) := (blk_cell BK101.out 2).trans rfl;have hfz11_0 := blk_frozen BK101.out 0;have hfz11_1 := blk_frozen BK101.out 1;have hfz11_2 := blk_frozen BK101.out 2;obtain ⟨i012, hi012, _, hsz12, _⟩ := info_parts info5;obtain ⟨A12, hcut12, hA12, hC12⟩ := print_mid_of (P := Tryd.prog) (Value.int .u8) 0 28 5 .i64 .i64 Tryd.underlying28 hi012 hsz12 A0_2 c0_2 l0_2 (ji6) (wrap64 ((wrap64 (x4_1 + 1)) * a0_0)) (of_decide_eq_true (by first | (with_reducible assumption) | assumption)) (by first | omega | exact of_decide_eq_true (by first | (with_reducible assumption) | assumption)) (of_decide_eq_true (by first | (with_reducible assumption) | assumption)) HC0_2.out;have HR102 := Aside0.mk (Kd.C_of_reads (h1 := fun _ => rfl) (hA12 _ (Kd.reads_of_C HR0_2.out)));have HC102 := Aside0.mk hC12;clear hA12 hC12 hi012 hsz12;have hcv13 := Kd.C_string (P := Tryd.prog) (A := A12) (c := (c0_2 - (ji6).toNat)) Tryd.underlying28 Tryd.underlying5 Tryd.underlying9 (Kd.C_below HR102.out HB.out)
          try (rw [cut_len] at hcv13; rotate_left; exact Int.toNat_le.2 (of_decide_eq_true (by first | (with_reducible assumption) | assumption)))
          go_wp2
          go_roundg k1
          case measure => have := HK1.out; omega
          case rel => exact ⟨((x3_1 ++ (⟨#[47]⟩ : ByteArray)) ++ (strOfNums ((l0_2.take ((wrap64 ((wrap64 (x4_1 + 1)) * a0_0)) : Int).toNat).drop ((ji6) : Int).toNat))), (wrap64 (x4_1 + 1)), (by first | rfl | (simp; done) | (simp only [← hji6] <;> (first | rfl | simp)) | (simp [*]; done)), (by first | rfl | (simp; done) | (simp [*]; done)), H', ⟨by have := HK1.out; omega⟩, ⟨blc⟩, ⟨bel HB⟩⟩
         ·rw [if_neg c10] at H
          exact absurd H (by simp)
        ·rw [if_neg c9] at H
         exact absurd H (by simp)
       ·rw [if_neg c8] at H
        exact absurd H (by simp)
      ·rw [if_neg c7] at H
       exact absurd H (by simp)
     ·rw [if_neg c5] at H
      exact absurd H (by simp)
    ·rw [if_neg c4] at H
     have c4b0 : decide (0 < x4_1) = false := decide_eq_false c4;clear c4;obtain ⟨ji14, hji14⟩ : ∃ j_ : Int, (wrap64 (x4_1 * a0_0)) = j_ := ⟨_, rfl⟩
     replace H : (if 0 ≤ (ji14) then (if (ji14) ≤ (wrap64 ((wrap64 (x4_1 + 1)) * a0_0)) then (if (wrap64 ((wrap64 (x4_1 + 1)) * a0_0)) ≤ (l0_2.length : Int) then (if x3_1.size + (strOfNums ((l0_2.take ((wrap64 ((wrap64 (x4_1 + 1)) * a0_0)) : Int).toNat).drop ((ji14) : Int).toNat)).size ≤ 9223372036854775807 then (spec_tyText.l0 k1 (x3_1 ++ (strOfNums ((l0_2.take ((wrap64 ((wrap64 (x4_1 + 1)) * a0_0)) : Int).toNat).drop ((ji14) : Int).toNat))) (wrap64 (x4_1 + 1)) a0_0 a0_1 l0_2) else (none)) else (none)) else (none)) else (none)) = some r := by first | (rw [hji14] at H; exact H) | (simp only [hji14] at H ⊢; exact H)
     have hji14w : (IntKind.i64.wrap (x4_1 * a0_0)) = ji14 := (i64_w _).trans hji14
     by_cases c15 : 0 ≤ (ji14)
     ·rw [if_pos c15] at H
      have c15b0 := eq_true c15;have c15b1 : decide (0 ≤ (ji14)) = true := decide_eq_true c15;clear c15
      by_cases c16 : (ji14) ≤ (wrap64 ((wrap64 (x4_1 + 1)) * a0_0))
      ·rw [if_pos c16] at H
       have c16b0 := eq_true c16;have c16b1 : decide ((ji14) ≤ (wrap64 ((wrap64 (x4_1 + 1)) * a0_0))) = true := decide_eq_true c16
       by_cases c17 : (wrap64 ((wrap64 (x4_1 + 1)) * a0_0)) ≤ (l0_2.length : Int)
       ·rw [if_pos c17] at H
        have c17b0 := eq_true c17;have c17b1 : decide ((wrap64 ((wrap64 (x4_1 + 1)) * a0_0)) ≤ (l0_2.length : Int)) = true := decide_eq_true c17
        by_cases c18 : x3_1.size + (strOfNums ((l0_2.take ((wrap64 ((wrap64 (x4_1 + 1)) * a0_0)) : Int).toNat).drop ((ji14) : Int).toNat)).size ≤ 9223372036854775807
        ·rw [if_pos c18] at H
         have c18b0 := eq_true c18;have c18b1 : decide (x3_1.size + (strOfNums ((l0_2.take ((wrap64 ((wrap64 (x4_1 + 1)) * a0_0)) : Int).toNat).drop ((ji14) : Int).toNat)).size ≤ 9223372036854775807) = true := decide_eq_true c18
         try have c18b2 : (9223372036854775807 < x3_1.size + (strOfNums ((l0_2.take ((wrap64 ((wrap64 (x4_1 + 1)) * a0_0)) : Int).toNat).drop ((ji14) : Int).toNat)).size) = False := eq_false (Nat.not_lt.2 c18)
         have H' := Aside0.mk H;clear H;have hcz19_0 : wr.cell? ⟨gb101, 0, none⟩ = some (.int .i64 a0_0) := (blk_cell BK101.out 0).trans rfl;have hcz19_1 : wr.cell? ⟨gb101, 1, none⟩ = some (.int .i64 a0_1) := (blk_cell BK101.out 1).trans rfl;have hcz19_2 : wr.cell? ⟨gb101, 2, none⟩ = some (.slice A0_2 l0_2.length c0_2) := (blk_cell BK101.out 2).trans rfl;have hfz19_0 := blk_frozen BK101.out 0;have hfz19_1 := blk_frozen BK101.out 1;have hfz19_2 := blk_frozen BK101.out 2;obtain ⟨i020, hi020, _, hsz20, _⟩ := info_parts info5;obtain ⟨A20, hcut20, hA20, hC20⟩ := print_mid_of (P := Tryd.prog) (Value.int .u8) 0 28 5 .i64 .i64 Tryd.underlying28 hi020 hsz20 A0_2 c0_2 l0_2 (ji14) (wrap64 ((wrap64 (x4_1 + 1)) * a0_0)) (of_decide_eq_true (by first | (with_reducible assumption) | assumption)) (by first | omega | exact of_decide_eq_true (by first | (with_reducible assumption) | assumption)) (of_decide_eq_true (by first | (with_reducible assumption) | assumption)) HC0_2.out;have HR103 := Aside0.mk (Kd.C_of_reads (h1 := fun _ => rfl) (hA20 _ (Kd.reads_of_C HR0_2.out)));have HC103 := Aside0.mk hC20;clear hA20 hC20 hi020 hsz20;have hcv21 := Kd.C_string (P := Tryd.prog) (A := A20) (c := (c0_2 - (ji14).toNat)) Tryd.underlying28 Tryd.underlying5 Tryd.underlying9 (Kd.C_below HR103.out HB.out)
         try (rw [cut_len] at hcv21; rotate_left; exact Int.toNat_le.2 (of_decide_eq_true (by first | (with_reducible assumption) | assumption)))
         go_wp2
         go_roundg k1
         case measure => have := HK1.out; omega
         case rel => exact ⟨(x3_1 ++ (strOfNums ((l0_2.take ((wrap64 ((wrap64 (x4_1 + 1)) * a0_0)) : Int).toNat).drop ((ji14) : Int).toNat))), (wrap64 (x4_1 + 1)), (by first | rfl | (simp; done) | (simp only [← hji14] <;> (first | rfl | simp)) | (simp [*]; done)), (by first | rfl | (simp; done) | (simp [*]; done)), H', ⟨by have := HK1.out; omega⟩, ⟨blc⟩, ⟨bel HB⟩⟩
        ·rw [if_neg c18] at H
         exact absurd H (by simp)
       ·rw [if_neg c17] at H
        exact absurd H (by simp)
      ·rw [if_neg c16] at H
       exact absurd H (by simp)
     ·rw [if_neg c15] at H
      exact absurd H (by simp)
   ·rw [if_neg c3] at H
    have c3b0 : decide (x4_1 < a0_1) = false := decide_eq_false c3;clear c3;obtain rfl := Option.some.inj H;have hcz22_0 : wr.cell? ⟨gb101, 0, none⟩ = some (.int .i64 a0_0) := (blk_cell BK101.out 0).trans rfl;have hcz22_1 : wr.cell? ⟨gb101, 1, none⟩ = some (.int .i64 a0_1) := (blk_cell BK101.out 1).trans rfl;have hcz22_2 : wr.cell? ⟨gb101, 2, none⟩ = some (.slice A0_2 l0_2.length c0_2) := (blk_cell BK101.out 2).trans rfl;have hfz22_0 := blk_frozen BK101.out 0;have hfz22_1 := blk_frozen BK101.out 1;have hfz22_2 := blk_frozen BK101.out 2
    go_wp2
    go_ret
    exact ⟨by first | rfl | (simp [errW_none, errW_some] <;> rfl) | (simp [*, errW_none, errW_some] <;> rfl), bel HB⟩
end Go.Proofs.YtkjlfgceodindaaDoor.Q
end
section
namespace Go.Proofs.YtkjlfgceodindaaDoor.Q
set_option linter.unusedSectionVars false
open Go.RowKit Go.Proofs.YtkjlfgceodindaaDoorW.PrintWords Go.Proofs.YtkjlfgceodindaaDoorW.PrintLast Go.Proofs.YtkjlfgceodindaaDoorW.PrintMore
theorem le_big {n : Nat} (h : n ≤ 200) : n ≤ 9223372036854775807 := Nat.le_trans h (by decide)
theorem w64n (n : Nat) (h : n ≤ 1000000) : wrap64 (n : Int) = (n : Int) := w64 (by omega) (by omega)
theorem w64s (n : Nat) (h : n ≤ 1000000) : wrap64 ((n : Int) + 1) = ((n + 1 : Nat) : Int) := by rw [w64 (by omega) (by omega)]; omega
def jn : List (List UInt8) → List UInt8
 | [] => []
 | [r] => r
 | r :: s :: rs => r ++ 47 :: jn (s :: rs)
theorem jn_snoc : ∀ (xs : List (List UInt8)) (x : List UInt8), jn (xs ++ [x]) = if xs = [] then x else jn xs ++ 47 :: x
 | [], x => rfl
 | [r], x => by simp [jn]
 | r :: s :: rs, x => by
  have ih := jn_snoc (s :: rs) x
  rw [if_neg (by simp)] at ih ⊢
  show r ++ 47 :: jn ((s :: rs) ++ [x]) = _
  rw [ih]
  simp [jn]
theorem rows_jn : ∀ xs : List (List UInt8), xs ≠ [] → (∀ r ∈ xs, (47 : UInt8) ∉ r) → rows 47 (jn xs) = xs
 | [], h, _ => absurd rfl h
 | [r], _, h => rows_free 47 r (h r (by simp))
 | r :: s :: rs, _, h => by
  show rows 47 (r ++ 47 :: jn (s :: rs)) = _
  rw [rows_at 47 _ r (h r (by simp)), rows_jn (s :: rs) (by simp) fun x hx => h x (List.mem_cons_of_mem _ hx)]
def rowL (l : List Int) (c k : Nat) : List UInt8 := ((l.drop (k * c)).take c).map fun n => UInt8.ofNat n.toNat
def txL (l : List Int) (c n : Nat) : List UInt8 := jn ((List.range n).map (rowL l c))
def tx (l : List Int) (c n : Nat) : ByteArray := ⟨(txL l c n).toArray⟩
theorem tx_list (l : List Int) (c n : Nat) : (tx l c n).data.toList = txL l c n := rfl
theorem txL_succ (l : List Int) (c n : Nat) : txL l c (n + 1) = if n = 0 then rowL l c 0 else txL l c n ++ 47 :: rowL l c n := by
 unfold txL
 rw [List.range_succ, List.map_append, List.map_singleton, jn_snoc]
 by_cases h : n = 0
 ·subst h
  simp
 ·rw [if_neg h, if_neg (by simpa using h)]
theorem rowL_len (l : List Int) (c k : Nat) : (rowL l c k).length ≤ c := by
 unfold rowL
 rw [List.length_map, List.length_take]
 omega
theorem txL_len (l : List Int) (c : Nat) : ∀ n, (txL l c n).length ≤ n * (c + 1)
 | 0 => by simp [txL, jn]
 | n + 1 => by
  have ih := txL_len l c n;have h1 := rowL_len l c n;have h2 := rowL_len l c 0
  rw [txL_succ, Nat.succ_mul]
  split
  ·omega
  ·rw [List.length_append, List.length_cons]
   omega
theorem ba_ext {a b : ByteArray} (h : a.data.toList = b.data.toList) : a = b := by
 obtain ⟨⟨a⟩⟩ := a;obtain ⟨⟨b⟩⟩ := b
 simp at h
 rw [h]
section
variable {w h : Nat} {cs : List Int} (hw1 : 1 ≤ w) (hh1 : 1 ≤ h) (hs : w * h ≤ 36) (hn : cs.length = w * h)
include hw1 hh1 hs hn
theorem ty_text_l0 : ∀ (m t : Nat), t + m = h → Ev (fun k => spec_tyText.l0 k (tx cs w t) t w h cs) (tx cs w h)
 | 0, t, ht => by
  obtain rfl : t = h := by omega
  refine Ev.step (Ev.const (o := some (tx cs w t)) rfl) fun k => ?_
  rw [spec_tyText.l0, if_neg (by omega)]
 | m + 1, t, ht => by
  have ih := ty_text_l0 m (t + 1) (by omega)
  have hth : t < h := by omega
  have h4 : h ≤ w * h := Nat.le_mul_of_pos_left h hw1
  have hle : (t + 1) * w ≤ w * h := by rw [Nat.mul_comm w h]; exact Nat.mul_le_mul_right w hth
  have ht1 : t * w + w = (t + 1) * w := (Nat.succ_mul t w).symm;have hB : (t + 1) * w ≤ 36 := Nat.le_trans hle hs;have hA : t * w ≤ 36 := Nat.le_trans (Nat.mul_le_mul_right w (Nat.le_succ t)) hB
  have hcut : strOfNums ((cs.take (((((t + 1) * w : Nat) : Int)).toNat)).drop ((((t * w : Nat) : Int)).toNat)) = strOfNums ((cs.drop (t * w)).take w) := by
   rw [Int.toNat_natCast, Int.toNat_natCast, List.drop_take, show (t + 1) * w - t * w = w from by rw [← ht1]; exact Nat.add_sub_cancel_left _ _]
  have h6 : t * (w + 1) ≤ 72 := by
   have a1 : t * (w + 1) ≤ h * (w + 1) := Nat.mul_le_mul_right _ (by omega)
   have a2 : h * (w + 1) ≤ 72 := by rw [Nat.mul_add, Nat.mul_one, Nat.mul_comm]; omega
   exact Nat.le_trans a1 a2
  have hsz : (tx cs w t).size ≤ 72 := by
   show (txL cs w t).toArray.size ≤ 72
   rw [List.size_toArray]
   exact Nat.le_trans (txL_len cs w t) h6
  have hrs : (strOfNums ((cs.drop (t * w)).take w)).size ≤ 36 := by
   rw [strOfNums_size, List.length_take]
   exact Nat.le_trans (Nat.min_le_left _ _) (Nat.le_trans (Nat.le_mul_of_pos_right w hh1) hs)
  have hs1 : (tx cs w t ++ (⟨#[47]⟩ : ByteArray)).size ≤ 73 := by
   rw [ByteArray.size_append]
   exact Nat.add_le_add hsz (Nat.le_refl 1)
  have e0 : (0 : Int) ≤ ((t * w : Nat) : Int) := Int.natCast_nonneg _;have e1 : ((t * w : Nat) : Int) ≤ (((t + 1) * w : Nat) : Int) := Int.ofNat_le.2 (Nat.mul_le_mul_right w (Nat.le_succ t));have e2 : (((t + 1) * w : Nat) : Int) ≤ (cs.length : Int) := Int.ofNat_le.2 (by rw [hn]; exact hle);have b1 : (tx cs w t).size + (strOfNums ((cs.drop (t * w)).take w)).size ≤ 9223372036854775807 := le_big (Nat.le_trans (Nat.add_le_add hsz hrs) (by decide));have b2 : (tx cs w t).size + 1 ≤ 9223372036854775807 := le_big (Nat.le_trans (Nat.add_le_add hsz (Nat.le_refl 1)) (by decide));have b3 : (tx cs w t ++ (⟨#[47]⟩ : ByteArray)).size + (strOfNums ((cs.drop (t * w)).take w)).size ≤ 9223372036854775807 := le_big (Nat.le_trans (Nat.add_le_add hs1 hrs) (by decide));have c1 : (t : Int) < (h : Int) := Int.ofNat_lt.2 hth;have hwt := w64s t (Nat.le_trans (Nat.le_of_lt hth) (Nat.le_trans h4 (Nat.le_trans hs (by decide))))
  have m0 : wrap64 ((t : Int) * (w : Int)) = ((t * w : Nat) : Int) := by
   rw [← Int.natCast_mul]
   exact w64n _ (Nat.le_trans hA (by decide))
  have m1 : wrap64 (((t + 1 : Nat) : Int) * (w : Int)) = (((t + 1) * w : Nat) : Int) := by
   rw [← Int.natCast_mul]
   exact w64n _ (Nat.le_trans hB (by decide))
  refine Ev.step ih fun k => ?_
  rw [spec_tyText.l0, if_pos c1]
  by_cases h0 : t = 0
  ·have c2 : ¬ (t : Int) > 0 := by
    rw [h0]
    decide
   have hx : (tx cs w t) ++ strOfNums ((cs.drop (t * w)).take w) = tx cs w (t + 1) := by
    apply ba_ext
    rw [tx_list, txL_succ, if_pos h0, ByteArray.data_append, Array.toList_append, tx_list, h0]
    rfl
   rw [if_neg c2, hwt, m0, m1, if_pos e0, if_pos e1, if_pos e2, hcut, if_pos b1, hx]
  ·have c2 : (t : Int) > 0 := Int.natCast_pos.2 (Nat.pos_of_ne_zero h0)
   have hx : (tx cs w t ++ (⟨#[47]⟩ : ByteArray)) ++ strOfNums ((cs.drop (t * w)).take w) = tx cs w (t + 1) := by
    apply ba_ext
    rw [tx_list, txL_succ, if_neg h0, ByteArray.data_append, Array.toList_append, ByteArray.data_append, Array.toList_append, tx_list, List.append_assoc]
    rfl
   rw [if_pos c2, if_pos b2, hwt, m0, m1, if_pos e0, if_pos e1, if_pos e2, hcut, if_pos b3, hx]
theorem tyText_ev : Ev (fun k => spec_tyText.f k w h cs) (tx cs w h) := ty_text_l0 hw1 hh1 hs hn h 0 (by omega)
end
def cellsOK (cs : List Int) : Prop := ∀ c ∈ cs, ∃ b : UInt8, c = (b.toNat : Int) ∧ isCellB b = true
theorem rowL_cells {cs : List Int} (hc : cellsOK cs) (c k : Nat) : (rowL cs c k).all isCellB = true ∧ ints (rowL cs c k) = (cs.drop (k * c)).take c := by
 unfold rowL ints
 have h1 : ∀ l : List Int, (∀ x ∈ l, ∃ b : UInt8, x = (b.toNat : Int) ∧ isCellB b = true) → (l.map fun n => UInt8.ofNat n.toNat).all isCellB = true ∧ (l.map fun n => UInt8.ofNat n.toNat).map (fun b => (b.toNat : Int)) = l := by
  intro l
  induction l with
  | nil => intro _; exact ⟨rfl, rfl⟩
  | cons x l ih =>
   intro h;obtain ⟨b, rfl, hb⟩ := h x List.mem_cons_self
   obtain ⟨i1, i2⟩ := ih fun y hy => h y (List.mem_cons_of_mem _ hy)
   have e : UInt8.ofNat (((b.toNat : Nat) : Int)).toNat = b := by simp
   refine ⟨?_, ?_⟩
   ·rw [List.map_cons, List.all_cons, e, hb, i1]
    rfl
   ·rw [List.map_cons, List.map_cons, e, i2]
 exact h1 _ fun x hx => hc x (List.drop_subset _ _ (List.take_subset _ _ hx))
theorem cellB_47 : isCellB 47 = false := by decide
theorem flat_rows (cs : List Int) (c : Nat) : ∀ m, ((List.range m).map fun k => (cs.drop (k * c)).take c).flatten = cs.take (m * c)
 | 0 => by simp
 | m + 1 => by
  rw [List.range_succ, List.map_append, List.flatten_append, flat_rows cs c m, List.map_singleton, List.flatten_singleton, Nat.succ_mul, List.take_add]
theorem ints_flat : ∀ L : List (List UInt8), ints L.flatten = (L.map ints).flatten
 | [] => rfl
 | r :: L => by rw [List.flatten_cons, ints_append, ints_flat L, List.map_cons, List.flatten_cons]
section
variable {w h : Nat} {cs : List Int} (hw1 : 1 ≤ w) (hw : w ≤ 7) (hh1 : 1 ≤ h) (hh : h ≤ 7) (hs : w * h ≤ 36) (hn : cs.length = w * h)
include hw1 hw hh1 hh hs hn
theorem tx_rows (hc : cellsOK cs) : rows 47 (tx cs w h).data.toList = (List.range h).map (rowL cs w) := by
 rw [tx_list]
 unfold txL
 refine rows_jn _ (by simp; omega) fun r hr => ?_
 obtain ⟨k, _, rfl⟩ := List.mem_map.1 hr;intro h47;have h1 := List.all_eq_true.1 (rowL_cells hc w k).1 47 h47
 rw [cellB_47] at h1
 cases h1
theorem tx_flat (hc : cellsOK cs) : ints ((List.range h).map (rowL cs w)).flatten = cs := by
 rw [ints_flat, List.map_map]
 have h1 : (List.range h).map (ints ∘ rowL cs w) = (List.range h).map fun k => (cs.drop (k * w)).take w := List.map_congr_left fun k _ => (rowL_cells hc w k).2
 rw [h1, flat_rows, List.take_of_length_le (by rw [hn, Nat.mul_comm]; exact Nat.le_refl _)]
theorem trayOf_tx (hc : cellsOK cs) (hnm : namedOK cs) : trayOf (tx cs w h) = some ((w : Int), (h : Int), cs) := by
 unfold trayOf trayRows
 rw [tx_rows hw1 hw hh1 hh hs hn hc]
 have hlen : ∀ k, k < h → (rowL cs w k).length = w := by
  intro k hk;unfold rowL
  rw [List.length_map, List.length_take, List.length_drop, hn]
  have : k * w + w ≤ w * h := by rw [← Nat.succ_mul, Nat.mul_comm w h]; exact Nat.mul_le_mul_right w hk
  omega
 have htw : tw ((List.range h).map (rowL cs w)) = w := by
  unfold tw;obtain ⟨m, rfl⟩ : ∃ m, h = m + 1 := ⟨h - 1, by omega⟩
  rw [List.range_succ_eq_map, List.map_cons, List.headD_cons]
  exact hlen 0 (by omega)
 have hok : okRows ((List.range h).map (rowL cs w)) := by
  unfold okRows
  rw [htw, List.length_map, List.length_range, tx_flat hw1 hw hh1 hh hs hn hc]
  refine ⟨⟨hw1, hw, hh, hs⟩, fun r hr => ?_, hnm⟩
  obtain ⟨k, hk, rfl⟩ := List.mem_map.1 hr
  exact ⟨hlen k (List.mem_range.1 hk), (rowL_cells hc w k).1⟩
 rw [if_pos hok, htw, List.length_map, List.length_range, tx_flat hw1 hw hh1 hh hs hn hc]
end
theorem jn_rows : ∀ l : List UInt8, jn (rows 47 l) = l
 | [] => rfl
 | b :: l => by
  have ih := jn_rows l;unfold rows
  split
  ·rename_i e
   subst e
   cases hr : rows 47 l with
   | nil => exact absurd hr (rows_ne 47 l)
   | cons r rs =>
    rw [hr] at ih
    show [] ++ 47 :: jn (r :: rs) = _
    rw [ih]
    rfl
  ·split
   ·rename_i e
    exact absurd e (rows_ne 47 l)
   ·rename_i r rs e
    rw [e] at ih
    cases rs with
    | nil =>
     show b :: r = _
     rw [show r = l from ih]
    | cons s rs =>
     show (b :: r) ++ 47 :: jn (s :: rs) = _
     rw [List.cons_append]
     congr 1
theorem row_back : ∀ (rs : List (List UInt8)) (c : Nat), (∀ r ∈ rs, r.length = c) → (List.range rs.length).map (rowL (ints rs.flatten) c) = rs
 | [], _, _ => rfl
 | r :: rs, c, h => by
  have hr := h r List.mem_cons_self
  have hb : ∀ l : List UInt8, (ints l).map (fun n => UInt8.ofNat n.toNat) = l := by
   intro l;unfold ints
   rw [List.map_map]
   exact (List.map_congr_left fun b _ => by simp).trans (List.map_id _)
  rw [List.length_cons, List.range_succ_eq_map, List.map_cons, List.map_map]
  have h0 : rowL (ints (r :: rs).flatten) c 0 = r := by
   unfold rowL
   rw [Nat.zero_mul, List.drop_zero, List.flatten_cons, ints_append, List.take_left' (by rw [ints_length]; exact hr), hb]
  rw [h0]
  congr 1
  refine Eq.trans (List.map_congr_left fun k _ => ?_) (row_back rs c fun x hx => h x (List.mem_cons_of_mem _ hx))
  show rowL (ints (r :: rs).flatten) c (k + 1) = _
  unfold rowL
  rw [List.flatten_cons, ints_append, Nat.succ_mul, Nat.add_comm, ← List.drop_drop, List.drop_left' (by rw [ints_length]; exact hr)]
theorem tray_own {t : ByteArray} {w h : Nat} {cs : List Int} (ht : trayOf t = some ((w : Int), (h : Int), cs)) : cellsOK cs ∧ tx cs w h = t ∧ cs = ints (rows 47 t.data.toList).flatten := by
 unfold trayOf trayRows at ht
 split at ht
 case isFalse => cases ht
 rename_i hk
 have h1 := Option.some.inj ht
 have hw : tw (rows 47 t.data.toList) = w := by have := congrArg (fun z => z.1) h1; simp only at this; omega
 have hh : (rows 47 t.data.toList).length = h := by have := congrArg (fun z => z.2.1) h1; simp only at this; omega
 have hc : ints (rows 47 t.data.toList).flatten = cs := congrArg (fun z => z.2.2) h1
 refine ⟨fun c hm => ?_, ?_, hc.symm⟩
 ·rw [← hc] at hm
  unfold ints at hm;obtain ⟨b, hb, rfl⟩ := List.mem_map.1 hm;obtain ⟨row, r1, r2⟩ := List.mem_flatten.1 hb
  exact ⟨b, rfl, List.all_eq_true.1 (hk.2.1 row r1).2 b r2⟩
 ·refine ba_ext ?_
  rw [tx_list]
  unfold txL
  rw [← hc, ← hh, row_back (rows 47 t.data.toList) w fun r hr => by rw [← hw]; exact (hk.2.1 r hr).1, jn_rows]
theorem tx_same {t : ByteArray} {w h : Nat} {cs a : List Int} (hw1 : 1 ≤ w) (hw : w ≤ 7) (hh1 : 1 ≤ h) (hh : h ≤ 7) (hs : w * h ≤ 36) (ht : trayOf t = some ((w : Int), (h : Int), cs)) (ha : cellsOK a) (hl : a.length = w * h) : (tx a w h).toList = t.toList ↔ a = cs := by
 obtain ⟨h1, h2, h3⟩ := tray_own ht
 constructor
 ·intro e
  have e2 : tx a w h = t := ba_ext (by rw [← toList_data, ← toList_data, e]);have h4 := tx_flat hw1 hw hh1 hh hs hl ha
  rw [← tx_rows hw1 hw hh1 hh hs hl ha, e2] at h4
  rw [h3, h4]
 ·intro e
  rw [e, h2]
end Go.Proofs.YtkjlfgceodindaaDoor.Q
end
section
namespace Go.Proofs.YtkjlfgceodindaaDoor.Q
open Go.RowKit Go.Proofs.YtkjlfgceodindaaDoorW.PrintWords Go.Proofs.YtkjlfgceodindaaDoorW.PrintLast Go.Proofs.YtkjlfgceodindaaDoorW.PrintMore
attribute [local go_sem] max2_int min2_int max_two min_two max_three min_three max_four min_four
set_option linter.unusedVariables false
set_option linter.unusedSimpArgs false
mutual
def spec_tyNear.j0 : Nat → Int → Int → Int → List Int → Int → Int → List Int → Option (List Int)
 | 0, _, _, _, _, _, _, _ => none
 | k + 1, x1, x5, x6, x7, x102000, x102001, x102002 => if x5 < (wrap64 (x102000 - 1)) then (if x7.length < 17592186044416 then (spec_tyNear.j1 k x1 x5 x6 (x7 ++ [wrap64 (x1 + 1)]) x102000 x102001 x102002) else (none)) else (spec_tyNear.j1 k x1 x5 x6 x7 x102000 x102001 x102002)
def spec_tyNear.j1 : Nat → Int → Int → Int → List Int → Int → Int → List Int → Option (List Int)
 | 0, _, _, _, _, _, _, _ => none
 | k + 1, x1, x5, x6, x7, x102000, x102001, x102002 => if x6 < (wrap64 (x102001 - 1)) then (if x7.length < 17592186044416 then ((some (x7 ++ [wrap64 (x1 + x102000)] : List Int)).bind fun y108 => (if x5 > 0 then (if y108.length < 17592186044416 then (some (y108 ++ [wrap64 (x1 - 1)])) else (none)) else (some y108))) else (none)) else (if x5 > 0 then (if x7.length < 17592186044416 then (some (x7 ++ [wrap64 (x1 - 1)])) else (none)) else (some x7))
end
def spec_tyNear.f (k : Nat) (a0_0 : Int) (a0_1 : Int) (l0_2 : List Int) (a1 : Int) : Option (List Int) := if a0_0 = 0 then (none) else (if (wrap64 (Int.tdiv a1 a0_0)) > 0 then (if ([] : List Int).length < 17592186044416 then (spec_tyNear.j0 k a1 (Int.tmod a1 a0_0) (wrap64 (Int.tdiv a1 a0_0)) (([] : List Int) ++ [wrap64 (a1 - a0_0)]) a0_0 a0_1 l0_2) else (none)) else (spec_tyNear.j0 k a1 (Int.tmod a1 a0_0) (wrap64 (Int.tdiv a1 a0_0)) ([] : List Int) a0_0 a0_1 l0_2))
theorem spec_tyNear.mono_l : ∀ k, (∀ y0 y1 y2 y3 y4 y5 y6, LeO (spec_tyNear.j0 k y0 y1 y2 y3 y4 y5 y6) (spec_tyNear.j0 (k + 1) y0 y1 y2 y3 y4 y5 y6)) ∧ (∀ y0 y1 y2 y3 y4 y5 y6, LeO (spec_tyNear.j1 k y0 y1 y2 y3 y4 y5 y6) (spec_tyNear.j1 (k + 1) y0 y1 y2 y3 y4 y5 y6))
 | 0 => ⟨fun _ _ _ _ _ _ _ r h => by simp [spec_tyNear.j0] at h, fun _ _ _ _ _ _ _ r h => by simp [spec_tyNear.j1] at h⟩
 | k + 1 => by
  obtain ⟨ih0, ih1⟩ := spec_tyNear.mono_l k
  refine ⟨?_, ?_⟩
  ·intro y0 y1 y2 y3 y4 y5 y6
   unfold spec_tyNear.j0
   repeat' first
   | (with_reducible apply ih0)
   | (with_reducible apply ih1)
   | (with_reducible exact LeO.refl _)
   | (with_reducible exact LeO.none _)
   | (with_reducible refine LeO.ite ?_ ?_)
   | (with_reducible refine LeO.bind ?_ (fun _ => ?_))
   | apply ih0
   | apply ih1
   | exact LeO.none _
   | refine LeO.ite ?_ ?_
   | refine LeO.bind ?_ (fun _ => ?_)
  ·intro y0 y1 y2 y3 y4 y5 y6
   unfold spec_tyNear.j1
   repeat' first
   | (with_reducible apply ih0)
   | (with_reducible apply ih1)
   | (with_reducible exact LeO.refl _)
   | (with_reducible exact LeO.none _)
   | (with_reducible refine LeO.ite ?_ ?_)
   | (with_reducible refine LeO.bind ?_ (fun _ => ?_))
   | apply ih0
   | apply ih1
   | exact LeO.none _
   | refine LeO.ite ?_ ?_
   | refine LeO.bind ?_ (fun _ => ?_)
theorem spec_tyNear.mono : ∀ a0 a1 a2 a3 k, LeO (spec_tyNear.f k a0 a1 a2 a3) (spec_tyNear.f (k + 1) a0 a1 a2 a3) := by
 intro a0 a1 a2 a3 k;obtain ⟨ih0, ih1⟩ := spec_tyNear.mono_l k;unfold spec_tyNear.f
 repeat' first
  | (with_reducible apply ih0)
  | (with_reducible apply ih1)
  | (with_reducible exact LeO.refl _)
  | (with_reducible exact LeO.none _)
  | (with_reducible refine LeO.ite ?_ ?_)
  | (with_reducible refine LeO.bind ?_ (fun _ => ?_))
  | apply ih0
  | apply ih1
  | exact LeO.none _
  | refine LeO.ite ?_ ?_
  | refine LeO.bind ?_ (fun _ => ?_)
set_option maxHeartbeats 8000000 in
set_option maxRecDepth 100000 in
theorem spec_tyNear.calls (k : Nat) (a0_0 : Int) (a0_1 : Int) (A0_2 : Option Addr) (c0_2 : Nat) (l0_2 : List Int) (a1 : Int) (r : List Int) (w : World) (hr0_2 : Kd.C (Kd.int .u8) w A0_2 l0_2.length l0_2) (hc0_2 : l0_2.length ≤ c0_2) (h : spec_tyNear.f k a0_0 a0_1 l0_2 a1 = some r) :
  Calls Tryd.prog 26 #[.agg #[.int .i64 a0_0, .int .i64 a0_1, .slice A0_2 l0_2.length c0_2], .int .i64 a1] w fun e w' => ∃ v0_ : Value, e = .returned (v0_) ∧ Kd.R (Kd.int .i64) 3 w' w.heap.size (fun _ => True) v0_ r ∧ Below w.heap.size w w' := by
 have hu30 := Tryd.underlying30;have HR0_2 := Aside0.mk hr0_2;have HC0_2 := Aside0.mk hc0_2;clear hr0_2 hc0_2;have HB := Aside0.mk (Below.refl w.heap.size w);have H : (if a0_0 = 0 then (none) else (if (wrap64 (Int.tdiv a1 a0_0)) > 0 then (if ([] : List Int).length < 17592186044416 then (spec_tyNear.j0 k a1 (Int.tmod a1 a0_0) (wrap64 (Int.tdiv a1 a0_0)) (([] : List Int) ++ [wrap64 (a1 - a0_0)]) a0_0 a0_1 l0_2) else (none)) else (spec_tyNear.j0 k a1 (Int.tmod a1 a0_0) (wrap64 (Int.tdiv a1 a0_0)) ([] : List Int) a0_0 a0_1 l0_2))) = some r := h;clear h
 by_cases c3 : a0_0 = 0
 ·rw [if_pos c3] at H
  exact absurd H (by simp)
 ·rw [if_neg c3] at H
  have c3b0 : (a0_0 == 0) = false := beq_eq_false_iff_ne.mpr c3;have c3b1 : (a0_0 != 0) = true := bne_iff_ne.mpr c3;have HC4 := Aside0.mk H;clear H
  go_enter Tryd.func26, Tryd.ntmps26
  go_upto_if 17 with (first | ((with_reducible refine gate_dst (N := 2) rfl ?_); refine boxE (N := 2) (cs := #[.int .i64 a0_0, .int .i64 a0_1, .slice A0_2 l0_2.length c0_2]) (t := 30) ?_; intro gb101 hg w5 hbox hb; have n0_ := Aside0.mk (below_step (bel HB) hb); have n1_ := Aside0.mk (hbox); have n2_ := Aside0.mk (gsz hg (bel HB)); have n3_ := Aside0.mk (gsz hg (bel HB)); clear HB; have HB := n0_; have BK101 := n1_; have GW101 := n2_; have GE101 := n3_; clear n0_ n1_ n2_ n3_; clear hb hbox hg; have hcz6_0 : w5.cell? ⟨gb101, 0, none⟩ = some (.int .i64 a0_0) := (blk_cell BK101.out 0).trans rfl; have hcz6_1 : w5.cell? ⟨gb101, 1, none⟩ = some (.int .i64 a0_1) := (blk_cell BK101.out 1).trans rfl; have hcz6_2 : w5.cell? ⟨gb101, 2, none⟩ = some (.slice A0_2 l0_2.length c0_2) := (blk_cell BK101.out 2).trans rfl; have hfz6_0 := blk_frozen BK101.out 0; have hfz6_1 := blk_frozen BK101.out 1; have hfz6_2 := blk_frozen BK101.out 2))
  repeat (go_quiet (first | ((with_reducible refine gate_dst (N := 2) rfl ?_); refine boxE (N := 2) (cs := #[.int .i64 a0_0, .int .i64 a0_1, .slice A0_2 l0_2.length c0_2]) (t := 30) ?_; intro gb101 hg w5 hbox hb; have n0_ := Aside0.mk (below_step (bel HB) hb); have n1_ := Aside0.mk (hbox); have n2_ := Aside0.mk (gsz hg (bel HB)); have n3_ := Aside0.mk (gsz hg (bel HB)); clear HB; have HB := n0_; have BK101 := n1_; have GW101 := n2_; have GE101 := n3_; clear n0_ n1_ n2_ n3_; clear hb hbox hg; have hcz6_0 : w5.cell? ⟨gb101, 0, none⟩ = some (.int .i64 a0_0) := (blk_cell BK101.out 0).trans rfl; have hcz6_1 : w5.cell? ⟨gb101, 1, none⟩ = some (.int .i64 a0_1) := (blk_cell BK101.out 1).trans rfl; have hcz6_2 : w5.cell? ⟨gb101, 2, none⟩ = some (.slice A0_2 l0_2.length c0_2) := (blk_cell BK101.out 2).trans rfl; have hfz6_0 := blk_frozen BK101.out 0; have hfz6_1 := blk_frozen BK101.out 1; have hfz6_2 := blk_frozen BK101.out 2)); go_upto_if 17 with (first | ((with_reducible refine gate_dst (N := 2) rfl ?_); refine boxE (N := 2) (cs := #[.int .i64 a0_0, .int .i64 a0_1, .slice A0_2 l0_2.length c0_2]) (t := 30) ?_; intro gb101 hg w5 hbox hb; have n0_ := Aside0.mk (below_step (bel HB) hb); have n1_ := Aside0.mk (hbox); have n2_ := Aside0.mk (gsz hg (bel HB)); have n3_ := Aside0.mk (gsz hg (bel HB)); clear HB; have HB := n0_; have BK101 := n1_; have GW101 := n2_; have GE101 := n3_; clear n0_ n1_ n2_ n3_; clear hb hbox hg; have hcz6_0 : w5.cell? ⟨gb101, 0, none⟩ = some (.int .i64 a0_0) := (blk_cell BK101.out 0).trans rfl; have hcz6_1 : w5.cell? ⟨gb101, 1, none⟩ = some (.int .i64 a0_1) := (blk_cell BK101.out 1).trans rfl; have hcz6_2 : w5.cell? ⟨gb101, 2, none⟩ = some (.slice A0_2 l0_2.length c0_2) := (blk_cell BK101.out 2).trans rfl; have hfz6_0 := blk_frozen BK101.out 0; have hfz6_1 := blk_frozen BK101.out 1; have hfz6_2 := blk_frozen BK101.out 2)))
  (try simp only [Act.put, List.setIfInBounds_toArray, List.set_cons_zero, List.set_cons_succ])
  go_cut [7] (fun v7 wc => ∃ (kq : Nat) (x7_3 : List Int), Aside0 (spec_tyNear.j0 kq a1 (Int.tmod a1 a0_0) (wrap64 (Int.tdiv a1 a0_0)) x7_3 a0_0 a0_1 l0_2 = some r) ∧ Aside0 (kq ≤ k) ∧ Aside0 (Kd.R (Kd.int .i64) 3 wc w.heap.size (fun _ => True) v7 x7_3) ∧ Aside0 (wc.heap[gb101]? = some (.cells #[.int .i64 a0_0, .int .i64 a0_1, (.slice A0_2 l0_2.length c0_2)] 30 (0, 0))) ∧ Aside0 (Below w.heap.size w wc))
  case first =>
   have H := HC4.out;clear HC4
   by_cases c7 : (wrap64 (Int.tdiv a1 a0_0)) > 0
   ·rw [if_pos c7] at H
    have c7b0 : decide (0 < (wrap64 (Int.tdiv a1 a0_0))) = true := decide_eq_true c7;clear c7
    (first | rw [c7b0] | (simp only [i64_w, i32_w]; rw [c7b0]) | skip)
    by_cases c8 : ([] : List Int).length < 17592186044416
    ·rw [if_pos c8] at H
     have LMc8 := Aside0.mk c8;clear c8;obtain ⟨y102, hy102⟩ : ∃ y_ : List Int, y_ = (([] : List Int) ++ [wrap64 (a1 - a0_0)]) := ⟨_, rfl⟩;replace H : (spec_tyNear.j0 k a1 (Int.tmod a1 a0_0) (wrap64 (Int.tdiv a1 a0_0)) y102 a0_0 a0_1 l0_2) = some r := rH hy102 H;have Ny102 := Aside0.mk hy102;clear hy102;have H' := Aside0.mk H;clear H;have hcz9_0 : w5.cell? ⟨gb101, 0, none⟩ = some (.int .i64 a0_0) := (blk_cell BK101.out 0).trans rfl;have hcz9_1 : w5.cell? ⟨gb101, 1, none⟩ = some (.int .i64 a0_1) := (blk_cell BK101.out 1).trans rfl;have hcz9_2 : w5.cell? ⟨gb101, 2, none⟩ = some (.slice A0_2 l0_2.length c0_2) := (blk_cell BK101.out 2).trans rfl;have hfz9_0 := blk_frozen BK101.out 0;have hfz9_1 := blk_frozen BK101.out 1;have hfz9_2 := blk_frozen BK101.out 2
     go_wp2_with (first | ((with_reducible refine gate_builtin (b := .append) (xs := #[.tmp 18, .tmp 23]) rfl ?_); at_builtin; refine Kd.R_append (Kd.int .i64) (w0 := w) w.heap.size rfl (.tmp 18) (.tmp 23) 33 3 (.int .i64 0) 8 rfl Tryd.underlying33 info3 rfl (by decide) (by omega) (.slice none 0 0) ([] : List Int) (wrap64 (a1 - a0_0)) [.int .i64 (wrap64 (a1 - a0_0))] (fun _ => True) (fun _ => False) rfl rfl ?aP (fun _ hk => hk.elim) ?aF ?aO ?aB ?aS ?aL ?_; (case aP => exact rfl); (case aB => exact (bel HB)); (case aF => exact (fun _ _ => trivial)); (case aO => exact ((Kd.R_nil _ _ _ _ (fun _ => True)))); (case aS => exact (below_size (bel HB))); (case aL => have := LMc8.out; omega); intro v103 w10 ho hb hg hat; rw [← Ny102.out] at ho; have n0_ := Aside0.mk (blk_grown (g := gb101) (o := .cells #[.int .i64 a0_0, .int .i64 a0_1, .slice A0_2 l0_2.length c0_2] 30 (0, 0)) blc hg (by simp [Value.ownBlock])); have n1_ := Aside0.mk (hb); have n2_ := Aside0.mk (ho); clear BK101; clear HB; have BK101 := n0_; have HB := n1_; have HO104 := n2_; clear n0_ n1_ n2_; clear ho hb hg hat))
     repeat (go_quiet (first | ((with_reducible refine gate_builtin (b := .append) (xs := #[.tmp 18, .tmp 23]) rfl ?_); at_builtin; refine Kd.R_append (Kd.int .i64) (w0 := w) w.heap.size rfl (.tmp 18) (.tmp 23) 33 3 (.int .i64 0) 8 rfl Tryd.underlying33 info3 rfl (by decide) (by omega) (.slice none 0 0) ([] : List Int) (wrap64 (a1 - a0_0)) [.int .i64 (wrap64 (a1 - a0_0))] (fun _ => True) (fun _ => False) rfl rfl ?aP (fun _ hk => hk.elim) ?aF ?aO ?aB ?aS ?aL ?_; (case aP => exact rfl); (case aB => exact (bel HB)); (case aF => exact (fun _ _ => trivial)); (case aO => exact ((Kd.R_nil _ _ _ _ (fun _ => True)))); (case aS => exact (below_size (bel HB))); (case aL => have := LMc8.out; omega); intro v103 w10 ho hb hg hat; rw [← Ny102.out] at ho; have n0_ := Aside0.mk (blk_grown (g := gb101) (o := .cells #[.int .i64 a0_0, .int .i64 a0_1, .slice A0_2 l0_2.length c0_2] 30 (0, 0)) blc hg (by simp [Value.ownBlock])); have n1_ := Aside0.mk (hb); have n2_ := Aside0.mk (ho); clear BK101; clear HB; have BK101 := n0_; have HB := n1_; have HO104 := n2_; clear n0_ n1_ n2_; clear ho hb hg hat)); try go_wp2_with (first | ((with_reducible refine gate_builtin (b := .append) (xs := #[.tmp 18, .tmp 23]) rfl ?_); at_builtin; refine Kd.R_append (Kd.int .i64) (w0 := w) w.heap.size rfl (.tmp 18) (.tmp 23) 33 3 (.int .i64 0) 8 rfl Tryd.underlying33 info3 rfl (by decide) (by omega) (.slice none 0 0) ([] : List Int) (wrap64 (a1 - a0_0)) [.int .i64 (wrap64 (a1 - a0_0))] (fun _ => True) (fun _ => False) rfl rfl ?aP (fun _ hk => hk.elim) ?aF ?aO ?aB ?aS ?aL ?_; (case aP => exact rfl); (case aB => exact (bel HB)); (case aF => exact (fun _ _ => trivial)); (case aO => exact ((Kd.R_nil _ _ _ _ (fun _ => True)))); (case aS => exact (below_size (bel HB))); (case aL => have := LMc8.out; omega); intro v103 w10 ho hb hg hat; rw [← Ny102.out] at ho; have n0_ := Aside0.mk (blk_grown (g := gb101) (o := .cells #[.int .i64 a0_0, .int .i64 a0_1, .slice A0_2 l0_2.length c0_2] 30 (0, 0)) blc hg (by simp [Value.ownBlock])); have n1_ := Aside0.mk (hb); have n2_ := Aside0.mk (ho); clear BK101; clear HB; have BK101 := n0_; have HB := n1_; have HO104 := n2_; clear n0_ n1_ n2_; clear ho hb hg hat)))
     go_meet
     case rel => exact ⟨_, (y102), H', ⟨by first | omega | exact Nat.le_refl _⟩, ⟨rch HO104⟩, ⟨blc⟩, ⟨bel HB⟩⟩
    ·rw [if_neg c8] at H
     exact absurd H (by simp)
   ·rw [if_neg c7] at H
    have c7b0 : decide (0 < (wrap64 (Int.tdiv a1 a0_0))) = false := decide_eq_false c7;clear c7
    (first | rw [c7b0] | (simp only [i64_w, i32_w]; rw [c7b0]) | skip)
    have H' := Aside0.mk H;clear H
    go_wp2
    repeat (go_quiet (fail); try go_wp2)
    go_meet
    case rel => exact ⟨_, (([] : List Int)), H', ⟨by first | omega | exact Nat.le_refl _⟩, ⟨by first | exact Kd.R_nil _ _ _ _ _ | exact Kd.N_nil _ _ _ _ _ | exact Kd.V_nil _ _ _ _ _ | exact Kd.Q_nil _ _ _ _ _ | exact Kd.S_nil _ _ _ _ _⟩, ⟨blc⟩, ⟨bel HB⟩⟩
  case rest =>
   clear HC4
   try clear c2
   try clear p2
   try clear c3
   try clear c3b0
   try clear c3b0y
   try clear c3b1
   try clear p6
   try clear c7
   try clear c7b0
   try clear c7b0y
   try clear c8
   try clear hcz6_0
   try clear hcz6_1
   try clear hcz6_2
   try clear hcz9_0
   try clear hcz9_1
   try clear hcz9_2
   try clear hfz6_0
   try clear hfz6_1
   try clear hfz6_2
   try clear hfz9_0
   try clear hfz9_1
   try clear hfz9_2
   obtain ⟨kq, x7_3, HA, HJ3, HO_7, BK101, HB⟩ := hcut
   cases kq with
   | zero => exact absurd HA.out (by simp [spec_tyNear.j0])
   | succ kj3 =>
    have H := HA.out;clear HA
    simp only [spec_tyNear.j0] at H
    have HC11 := Aside0.mk H;clear H;have hcz12_0 : wc.cell? ⟨gb101, 0, none⟩ = some (.int .i64 a0_0) := (blk_cell BK101.out 0).trans rfl;have hcz12_1 : wc.cell? ⟨gb101, 1, none⟩ = some (.int .i64 a0_1) := (blk_cell BK101.out 1).trans rfl;have hcz12_2 : wc.cell? ⟨gb101, 2, none⟩ = some (.slice A0_2 l0_2.length c0_2) := (blk_cell BK101.out 2).trans rfl;have hfz12_0 := blk_frozen BK101.out 0;have hfz12_1 := blk_frozen BK101.out 1;have hfz12_2 := blk_frozen BK101.out 2
    go_upto_if 29 with (fail)
    repeat (go_quiet (fail); go_upto_if 29 with (fail))
    go_cut [7] (fun v7 wc => ∃ (kq : Nat) (x7_10 : List Int), Aside0 (spec_tyNear.j1 kq a1 (Int.tmod a1 a0_0) (wrap64 (Int.tdiv a1 a0_0)) x7_10 a0_0 a0_1 l0_2 = some r) ∧ Aside0 (kq ≤ kj3) ∧ Aside0 (Kd.R (Kd.int .i64) 3 wc w.heap.size (fun _ => True) v7 x7_10) ∧ Aside0 (wc.heap[gb101]? = some (.cells #[.int .i64 a0_0, .int .i64 a0_1, (.slice A0_2 l0_2.length c0_2)] 30 (0, 0))) ∧ Aside0 (Below w.heap.size w wc))
    case first =>
     have H := HC11.out;clear HC11
     by_cases c13 : (Int.tmod a1 a0_0) < (wrap64 (a0_0 - 1))
     ·rw [if_pos c13] at H
      have c13b0 : decide ((Int.tmod a1 a0_0) < (wrap64 (a0_0 - 1))) = true := decide_eq_true c13;clear c13
      (first | rw [c13b0] | (simp only [i64_w, i32_w]; rw [c13b0]) | skip)
      by_cases c14 : x7_3.length < 17592186044416
      ·rw [if_pos c14] at H
       have LMc14 := Aside0.mk c14;clear c14;obtain ⟨y105, hy105⟩ : ∃ y_ : List Int, y_ = (x7_3 ++ [wrap64 (a1 + 1)]) := ⟨_, rfl⟩;replace H : (spec_tyNear.j1 kj3 a1 (Int.tmod a1 a0_0) (wrap64 (Int.tdiv a1 a0_0)) y105 a0_0 a0_1 l0_2) = some r := rH hy105 H;have Ny105 := Aside0.mk hy105;clear hy105;have H' := Aside0.mk H;clear H
       go_wp2_with (first | ((with_reducible refine gate_builtin (b := .append) (xs := #[.tmp 30, .tmp 33]) rfl ?_); at_builtin; refine Kd.R_append (Kd.int .i64) (w0 := w) w.heap.size rfl (.tmp 30) (.tmp 33) 33 3 (.int .i64 0) 8 rfl Tryd.underlying33 info3 rfl (by decide) (by omega) u7 x7_3 (wrap64 (a1 + 1)) [.int .i64 (wrap64 (a1 + 1))] (fun _ => True) (fun _ => False) rfl rfl ?aP (fun _ hk => hk.elim) ?aF ?aO ?aB ?aS ?aL ?_; (case aP => exact rfl); (case aB => exact (bel HB)); (case aF => exact (fun _ _ => trivial)); (case aO => exact (rch HO_7)); (case aS => exact (below_size (bel HB))); (case aL => have := LMc14.out; omega); intro v106 w15 ho hb hg hat; rw [← Ny105.out] at ho; have n0_ := Aside0.mk (blk_grown (g := gb101) (o := .cells #[.int .i64 a0_0, .int .i64 a0_1, .slice A0_2 l0_2.length c0_2] 30 (0, 0)) blc hg (Kd.R_ne HO_7.out BK101.out (by decide))); have n1_ := Aside0.mk (hb); have n2_ := Aside0.mk (ho); clear BK101; clear HB; clear HO_7; have BK101 := n0_; have HB := n1_; have HO107 := n2_; clear n0_ n1_ n2_; clear ho hb hg hat))
       repeat (go_quiet (first | ((with_reducible refine gate_builtin (b := .append) (xs := #[.tmp 30, .tmp 33]) rfl ?_); at_builtin; refine Kd.R_append (Kd.int .i64) (w0 := w) w.heap.size rfl (.tmp 30) (.tmp 33) 33 3 (.int .i64 0) 8 rfl Tryd.underlying33 info3 rfl (by decide) (by omega) u7 x7_3 (wrap64 (a1 + 1)) [.int .i64 (wrap64 (a1 + 1))] (fun _ => True) (fun _ => False) rfl rfl ?aP (fun _ hk => hk.elim) ?aF ?aO ?aB ?aS ?aL ?_; (case aP => exact rfl); (case aB => exact (bel HB)); (case aF => exact (fun _ _ => trivial)); (case aO => exact (rch HO_7)); (case aS => exact (below_size (bel HB))); (case aL => have := LMc14.out; omega); intro v106 w15 ho hb hg hat; rw [← Ny105.out] at ho; have n0_ := Aside0.mk (blk_grown (g := gb101) (o := .cells #[.int .i64 a0_0, .int .i64 a0_1, .slice A0_2 l0_2.length c0_2] 30 (0, 0)) blc hg (Kd.R_ne HO_7.out BK101.out (by decide))); have n1_ := Aside0.mk (hb); have n2_ := Aside0.mk (ho); clear BK101; clear HB; clear HO_7; have BK101 := n0_; have HB := n1_; have HO107 := n2_; clear n0_ n1_ n2_; clear ho hb hg hat)); try go_wp2_with (first | ((with_reducible refine gate_builtin (b := .append) (xs := #[.tmp 30, .tmp 33]) rfl ?_); at_builtin; refine Kd.R_append (Kd.int .i64) (w0 := w) w.heap.size rfl (.tmp 30) (.tmp 33) 33 3 (.int .i64 0) 8 rfl Tryd.underlying33 info3 rfl (by decide) (by omega) u7 x7_3 (wrap64 (a1 + 1)) [.int .i64 (wrap64 (a1 + 1))] (fun _ => True) (fun _ => False) rfl rfl ?aP (fun _ hk => hk.elim) ?aF ?aO ?aB ?aS ?aL ?_; (case aP => exact rfl); (case aB => exact (bel HB)); (case aF => exact (fun _ _ => trivial)); (case aO => exact (rch HO_7)); (case aS => exact (below_size (bel HB))); (case aL => have := LMc14.out; omega); intro v106 w15 ho hb hg hat; rw [← Ny105.out] at ho; have n0_ := Aside0.mk (blk_grown (g := gb101) (o := .cells #[.int .i64 a0_0, .int .i64 a0_1, .slice A0_2 l0_2.length c0_2] 30 (0, 0)) blc hg (Kd.R_ne HO_7.out BK101.out (by decide))); have n1_ := Aside0.mk (hb); have n2_ := Aside0.mk (ho); clear BK101; clear HB; clear HO_7; have BK101 := n0_; have HB := n1_; have HO107 := n2_; clear n0_ n1_ n2_; clear ho hb hg hat)))
       go_meet
       case rel => exact ⟨_, (y105), H', ⟨by have := HJ3.out; first | omega | exact Nat.le_refl _⟩, ⟨rch HO107⟩, ⟨blc⟩, ⟨bel HB⟩⟩
      ·rw [if_neg c14] at H
       exact absurd H (by simp)
     ·rw [if_neg c13] at H
      have c13b0 : decide ((Int.tmod a1 a0_0) < (wrap64 (a0_0 - 1))) = false := decide_eq_false c13;clear c13
      (first | rw [c13b0] | (simp only [i64_w, i32_w]; rw [c13b0]) | skip)
      have H' := Aside0.mk H;clear H
      go_wp2
      repeat (go_quiet (fail); try go_wp2)
      go_meet
      case rel => exact ⟨_, (x7_3), H', ⟨by have := HJ3.out; first | omega | exact Nat.le_refl _⟩, ⟨rch HO_7⟩, ⟨blc⟩, ⟨bel HB⟩⟩
    case rest =>
     clear HC11
     try clear c1
     try clear c2
     try clear p2
     try clear c3
     try clear c3b0
     try clear c3b0y
     try clear c3b1
     try clear p6
     try clear c7
     try clear c7b0
     try clear c7b0y
     try clear c8
     try clear c13
     try clear c13b0
     try clear c13b0y
     try clear c14
     try clear hcz12_0
     try clear hcz12_1
     try clear hcz12_2
     try clear hcz6_0
     try clear hcz6_1
     try clear hcz6_2
     try clear hcz9_0
     try clear hcz9_1
     try clear hcz9_2
     try clear hfz12_0
     try clear hfz12_1
     try clear hfz12_2
     try clear hfz6_0
     try clear hfz6_1
     try clear hfz6_2
     try clear hfz9_0
     try clear hfz9_1
     try clear hfz9_2
     try clear p2
     try clear p6
     obtain ⟨kq, x7_10, HA, HJ10, HO_7, BK101, HB⟩ := hcut
     cases kq with
     | zero => exact absurd HA.out (by simp [spec_tyNear.j1])
     | succ kj10 =>
      have H := HA.out;clear HA
      simp only [spec_tyNear.j1] at H
      by_cases c16 : (wrap64 (Int.tdiv a1 a0_0)) < (wrap64 (a0_1 - 1))
      ·rw [if_pos c16] at H
       have c16b0 : decide ((wrap64 (Int.tdiv a1 a0_0)) < (wrap64 (a0_1 - 1))) = true := decide_eq_true c16;clear c16
       by_cases c17 : x7_10.length < 17592186044416
       ·rw [if_pos c17] at H
        have LMc17 := Aside0.mk c17;clear c17;obtain ⟨y108, hy108⟩ : ∃ y_ : List Int, y_ = (x7_10 ++ [wrap64 (a1 + a0_0)]) := ⟨_, rfl⟩;replace H : (if (Int.tmod a1 a0_0) > 0 then (if y108.length < 17592186044416 then (some (y108 ++ [wrap64 (a1 - 1)])) else (none)) else (some y108)) = some r := rH hy108 H;have Ny108 := Aside0.mk hy108;clear hy108
        by_cases c18 : (Int.tmod a1 a0_0) > 0
        ·rw [if_pos c18] at H
         have c18b0 : decide (0 < (Int.tmod a1 a0_0)) = true := decide_eq_true c18;clear c18
         by_cases c19 : y108.length < 17592186044416
         ·rw [if_pos c19] at H
          have LMc19 := Aside0.mk c19;clear c19;obtain ⟨y111, hy111⟩ : ∃ y_ : List Int, y_ = (y108 ++ [wrap64 (a1 - 1)]) := ⟨_, rfl⟩;replace H : (some y111) = some r := rH hy111 H;have Ny111 := Aside0.mk hy111;clear hy111;obtain rfl := Option.some.inj H;have hcz20_0 : wc.cell? ⟨gb101, 0, none⟩ = some (.int .i64 a0_0) := (blk_cell BK101.out 0).trans rfl;have hcz20_1 : wc.cell? ⟨gb101, 1, none⟩ = some (.int .i64 a0_1) := (blk_cell BK101.out 1).trans rfl;have hcz20_2 : wc.cell? ⟨gb101, 2, none⟩ = some (.slice A0_2 l0_2.length c0_2) := (blk_cell BK101.out 2).trans rfl;have hfz20_0 := blk_frozen BK101.out 0;have hfz20_1 := blk_frozen BK101.out 1;have hfz20_2 := blk_frozen BK101.out 2
          go_wp2_with (first | ((with_reducible refine gate_builtin (b := .append) (xs := #[.tmp 40, .tmp 45]) rfl ?_); at_builtin; refine Kd.R_append (Kd.int .i64) (w0 := w) w.heap.size rfl (.tmp 40) (.tmp 45) 33 3 (.int .i64 0) 8 rfl Tryd.underlying33 info3 rfl (by decide) (by omega) u7 x7_10 (wrap64 (a1 + a0_0)) [.int .i64 (wrap64 (a1 + a0_0))] (fun _ => True) (fun _ => False) rfl rfl ?aP (fun _ hk => hk.elim) ?aF ?aO ?aB ?aS ?aL ?_; (case aP => exact rfl); (case aB => exact (bel HB)); (case aF => exact (fun _ _ => trivial)); (case aO => exact (rch HO_7)); (case aS => exact (below_size (bel HB))); (case aL => have := LMc17.out; omega); intro v109 w21 ho hb hg hat; rw [← Ny108.out] at ho; have n0_ := Aside0.mk (blk_grown (g := gb101) (o := .cells #[.int .i64 a0_0, .int .i64 a0_1, .slice A0_2 l0_2.length c0_2] 30 (0, 0)) blc hg (Kd.R_ne HO_7.out BK101.out (by decide))); have n1_ := Aside0.mk (hb); have n2_ := Aside0.mk (ho); clear BK101; clear HB; clear HO_7; have BK101 := n0_; have HB := n1_; have HO110 := n2_; clear n0_ n1_ n2_; clear ho hb hg hat) | ((with_reducible refine gate_builtin (b := .append) (xs := #[.tmp 49, .tmp 52]) rfl ?_); at_builtin; refine Kd.R_append (Kd.int .i64) (w0 := w) w.heap.size rfl (.tmp 49) (.tmp 52) 33 3 (.int .i64 0) 8 rfl Tryd.underlying33 info3 rfl (by decide) (by omega) v109 y108 (wrap64 (a1 - 1)) [.int .i64 (wrap64 (a1 - 1))] (fun _ => True) (fun _ => False) rfl rfl ?aP (fun _ hk => hk.elim) ?aF ?aO ?aB ?aS ?aL ?_; (case aP => exact rfl); (case aB => exact (bel HB)); (case aF => exact (fun _ _ => trivial)); (case aO => exact (rch HO110)); (case aS => exact (below_size (bel HB))); (case aL => have := LMc19.out; omega); intro v112 w22 ho hb hg hat; rw [← Ny111.out] at ho; have n0_ := Aside0.mk (blk_grown (g := gb101) (o := .cells #[.int .i64 a0_0, .int .i64 a0_1, .slice A0_2 l0_2.length c0_2] 30 (0, 0)) blc hg (Kd.R_ne HO110.out BK101.out (by decide))); have n1_ := Aside0.mk (hb); have n2_ := Aside0.mk (ho); clear BK101; clear HB; clear HO110; have BK101 := n0_; have HB := n1_; have HO113 := n2_; clear n0_ n1_ n2_; clear ho hb hg hat))
          repeat (go_quiet (first | ((with_reducible refine gate_builtin (b := .append) (xs := #[.tmp 40, .tmp 45]) rfl ?_); at_builtin; refine Kd.R_append (Kd.int .i64) (w0 := w) w.heap.size rfl (.tmp 40) (.tmp 45) 33 3 (.int .i64 0) 8 rfl Tryd.underlying33 info3 rfl (by decide) (by omega) u7 x7_10 (wrap64 (a1 + a0_0)) [.int .i64 (wrap64 (a1 + a0_0))] (fun _ => True) (fun _ => False) rfl rfl ?aP (fun _ hk => hk.elim) ?aF ?aO ?aB ?aS ?aL ?_; (case aP => exact rfl); (case aB => exact (bel HB)); (case aF => exact (fun _ _ => trivial)); (case aO => exact (rch HO_7)); (case aS => exact (below_size (bel HB))); (case aL => have := LMc17.out; omega); intro v109 w21 ho hb hg hat; rw [← Ny108.out] at ho; have n0_ := Aside0.mk (blk_grown (g := gb101) (o := .cells #[.int .i64 a0_0, .int .i64 a0_1, .slice A0_2 l0_2.length c0_2] 30 (0, 0)) blc hg (Kd.R_ne HO_7.out BK101.out (by decide))); have n1_ := Aside0.mk (hb); have n2_ := Aside0.mk (ho); clear BK101; clear HB; clear HO_7; have BK101 := n0_; have HB := n1_; have HO110 := n2_; clear n0_ n1_ n2_; clear ho hb hg hat) | ((with_reducible refine gate_builtin (b := .append) (xs := #[.tmp 49, .tmp 52]) rfl ?_); at_builtin; refine Kd.R_append (Kd.int .i64) (w0 := w) w.heap.size rfl (.tmp 49) (.tmp 52) 33 3 (.int .i64 0) 8 rfl Tryd.underlying33 info3 rfl (by decide) (by omega) v109 y108 (wrap64 (a1 - 1)) [.int .i64 (wrap64 (a1 - 1))] (fun _ => True) (fun _ => False) rfl rfl ?aP (fun _ hk => hk.elim) ?aF ?aO ?aB ?aS ?aL ?_; (case aP => exact rfl); (case aB => exact (bel HB)); (case aF => exact (fun _ _ => trivial)); (case aO => exact (rch HO110)); (case aS => exact (below_size (bel HB))); (case aL => have := LMc19.out; omega); intro v112 w22 ho hb hg hat; rw [← Ny111.out] at ho; have n0_ := Aside0.mk (blk_grown (g := gb101) (o := .cells #[.int .i64 a0_0, .int .i64 a0_1, .slice A0_2 l0_2.length c0_2] 30 (0, 0)) blc hg (Kd.R_ne HO110.out BK101.out (by decide))); have n1_ := Aside0.mk (hb); have n2_ := Aside0.mk (ho); clear BK101; clear HB; clear HO110; have BK101 := n0_; have HB := n1_; have HO113 := n2_; clear n0_ n1_ n2_; clear ho hb hg hat)); try go_wp2_with (first | ((with_reducible refine gate_builtin (b := .append) (xs := #[.tmp 40, .tmp 45]) rfl ?_); at_builtin; refine Kd.R_append (Kd.int .i64) (w0 := w) w.heap.size rfl (.tmp 40) (.tmp 45) 33 3 (.int .i64 0) 8 rfl Tryd.underlying33 info3 rfl (by decide) (by omega) u7 x7_10 (wrap64 (a1 + a0_0)) [.int .i64 (wrap64 (a1 + a0_0))] (fun _ => True) (fun _ => False) rfl rfl ?aP (fun _ hk => hk.elim) ?aF ?aO ?aB ?aS ?aL ?_; (case aP => exact rfl); (case aB => exact (bel HB)); (case aF => exact (fun _ _ => trivial)); (case aO => exact (rch HO_7)); (case aS => exact (below_size (bel HB))); (case aL => have := LMc17.out; omega); intro v109 w21 ho hb hg hat; rw [← Ny108.out] at ho; have n0_ := Aside0.mk (blk_grown (g := gb101) (o := .cells #[.int .i64 a0_0, .int .i64 a0_1, .slice A0_2 l0_2.length c0_2] 30 (0, 0)) blc hg (Kd.R_ne HO_7.out BK101.out (by decide))); have n1_ := Aside0.mk (hb); have n2_ := Aside0.mk (ho); clear BK101; clear HB; clear HO_7; have BK101 := n0_; have HB := n1_; have HO110 := n2_; clear n0_ n1_ n2_; clear ho hb hg hat) | ((with_reducible refine gate_builtin (b := .append) (xs := #[.tmp 49, .tmp 52]) rfl ?_); at_builtin; refine Kd.R_append (Kd.int .i64) (w0 := w) w.heap.size rfl (.tmp 49) (.tmp 52) 33 3 (.int .i64 0) 8 rfl Tryd.underlying33 info3 rfl (by decide) (by omega) v109 y108 (wrap64 (a1 - 1)) [.int .i64 (wrap64 (a1 - 1))] (fun _ => True) (fun _ => False) rfl rfl ?aP (fun _ hk => hk.elim) ?aF ?aO ?aB ?aS ?aL ?_; (case aP => exact rfl); (case aB => exact (bel HB)); (case aF => exact (fun _ _ => trivial)); (case aO => exact (rch HO110)); (case aS => exact (below_size (bel HB))); (case aL => have := LMc19.out; omega); intro v112 w22 ho hb hg hat; rw [← Ny111.out] at ho; have n0_ := Aside0.mk (blk_grown (g := gb101) (o := .cells #[.int .i64 a0_0, .int .i64 a0_1, .slice A0_2 l0_2.length c0_2] 30 (0, 0)) blc hg (Kd.R_ne HO110.out BK101.out (by decide))); have n1_ := Aside0.mk (hb); have n2_ := Aside0.mk (ho); clear BK101; clear HB; clear HO110; have BK101 := n0_; have HB := n1_; have HO113 := n2_; clear n0_ n1_ n2_; clear ho hb hg hat)))
          go_ret
          exact ⟨_, by first | rfl | (simp [errW_none, errW_some] <;> rfl) | (simp [*, errW_none, errW_some] <;> rfl), rch HO113, bel HB⟩
         ·rw [if_neg c19] at H
          exact absurd H (by simp)
        ·rw [if_neg c18] at H
         have c18b0 : decide (0 < (Int.tmod a1 a0_0)) = false := decide_eq_false c18;clear c18;obtain rfl := Option.some.inj H;have hcz23_0 : wc.cell? ⟨gb101, 0, none⟩ = some (.int .i64 a0_0) := (blk_cell BK101.out 0).trans rfl;have hcz23_1 : wc.cell? ⟨gb101, 1, none⟩ = some (.int .i64 a0_1) := (blk_cell BK101.out 1).trans rfl;have hcz23_2 : wc.cell? ⟨gb101, 2, none⟩ = some (.slice A0_2 l0_2.length c0_2) := (blk_cell BK101.out 2).trans rfl;have hfz23_0 := blk_frozen BK101.out 0;have hfz23_1 := blk_frozen BK101.out 1;have hfz23_2 := blk_frozen BK101.out 2
         go_wp2_with (first | ((with_reducible refine gate_builtin (b := .append) (xs := #[.tmp 40, .tmp 45]) rfl ?_); at_builtin; refine Kd.R_append (Kd.int .i64) (w0 := w) w.heap.size rfl (.tmp 40) (.tmp 45) 33 3 (.int .i64 0) 8 rfl Tryd.underlying33 info3 rfl (by decide) (by omega) u7 x7_10 (wrap64 (a1 + a0_0)) [.int .i64 (wrap64 (a1 + a0_0))] (fun _ => True) (fun _ => False) rfl rfl ?aP (fun _ hk => hk.elim) ?aF ?aO ?aB ?aS ?aL ?_; (case aP => exact rfl); (case aB => exact (bel HB)); (case aF => exact (fun _ _ => trivial)); (case aO => exact (rch HO_7)); (case aS => exact (below_size (bel HB))); (case aL => have := LMc17.out; omega); intro v109 w24 ho hb hg hat; rw [← Ny108.out] at ho; have n0_ := Aside0.mk (blk_grown (g := gb101) (o := .cells #[.int .i64 a0_0, .int .i64 a0_1, .slice A0_2 l0_2.length c0_2] 30 (0, 0)) blc hg (Kd.R_ne HO_7.out BK101.out (by decide))); have n1_ := Aside0.mk (hb); have n2_ := Aside0.mk (ho); clear BK101; clear HB; clear HO_7; have BK101 := n0_; have HB := n1_; have HO110 := n2_; clear n0_ n1_ n2_; clear ho hb hg hat))
         repeat (go_quiet (first | ((with_reducible refine gate_builtin (b := .append) (xs := #[.tmp 40, .tmp 45]) rfl ?_); at_builtin; refine Kd.R_append (Kd.int .i64) (w0 := w) w.heap.size rfl (.tmp 40) (.tmp 45) 33 3 (.int .i64 0) 8 rfl Tryd.underlying33 info3 rfl (by decide) (by omega) u7 x7_10 (wrap64 (a1 + a0_0)) [.int .i64 (wrap64 (a1 + a0_0))] (fun _ => True) (fun _ => False) rfl rfl ?aP (fun _ hk => hk.elim) ?aF ?aO ?aB ?aS ?aL ?_; (case aP => exact rfl); (case aB => exact (bel HB)); (case aF => exact (fun _ _ => trivial)); (case aO => exact (rch HO_7)); (case aS => exact (below_size (bel HB))); (case aL => have := LMc17.out; omega); intro v109 w24 ho hb hg hat; rw [← Ny108.out] at ho; have n0_ := Aside0.mk (blk_grown (g := gb101) (o := .cells #[.int .i64 a0_0, .int .i64 a0_1, .slice A0_2 l0_2.length c0_2] 30 (0, 0)) blc hg (Kd.R_ne HO_7.out BK101.out (by decide))); have n1_ := Aside0.mk (hb); have n2_ := Aside0.mk (ho); clear BK101; clear HB; clear HO_7; have BK101 := n0_; have HB := n1_; have HO110 := n2_; clear n0_ n1_ n2_; clear ho hb hg hat)); try go_wp2_with (first | ((with_reducible refine gate_builtin (b := .append) (xs := #[.tmp 40, .tmp 45]) rfl ?_); at_builtin; refine Kd.R_append (Kd.int .i64) (w0 := w) w.heap.size rfl (.tmp 40) (.tmp 45) 33 3 (.int .i64 0) 8 rfl Tryd.underlying33 info3 rfl (by decide) (by omega) u7 x7_10 (wrap64 (a1 + a0_0)) [.int .i64 (wrap64 (a1 + a0_0))] (fun _ => True) (fun _ => False) rfl rfl ?aP (fun _ hk => hk.elim) ?aF ?aO ?aB ?aS ?aL ?_; (case aP => exact rfl); (case aB => exact (bel HB)); (case aF => exact (fun _ _ => trivial)); (case aO => exact (rch HO_7)); (case aS => exact (below_size (bel HB))); (case aL => have := LMc17.out; omega); intro v109 w24 ho hb hg hat; rw [← Ny108.out] at ho; have n0_ := Aside0.mk (blk_grown (g := gb101) (o := .cells #[.int .i64 a0_0, .int .i64 a0_1, .slice A0_2 l0_2.length c0_2] 30 (0, 0)) blc hg (Kd.R_ne HO_7.out BK101.out (by decide))); have n1_ := Aside0.mk (hb); have n2_ := Aside0.mk (ho); clear BK101; clear HB; clear HO_7; have BK101 := n0_; have HB := n1_; have HO110 := n2_; clear n0_ n1_ n2_; clear ho hb hg hat)))
         go_ret
         exact ⟨_, by first | rfl | (simp [errW_none, errW_some] <;> rfl) | (simp [*, errW_none, errW_some] <;> rfl), rch HO110, bel HB⟩
       ·rw [if_neg c17] at H
        exact absurd H (by simp)
      ·rw [if_neg c16] at H
       have c16b0 : decide ((wrap64 (Int.tdiv a1 a0_0)) < (wrap64 (a0_1 - 1))) = false := decide_eq_false c16;clear c16
       by_cases c25 : (Int.tmod a1 a0_0) > 0
       ·rw [if_pos c25] at H
        have c25b0 : decide (0 < (Int.tmod a1 a0_0)) = true := decide_eq_true c25;clear c25
        by_cases c26 : x7_10.length < 17592186044416
        ·rw [if_pos c26] at H
         have LMc26 := Aside0.mk c26;clear c26;obtain ⟨y114, hy114⟩ : ∃ y_ : List Int, y_ = (x7_10 ++ [wrap64 (a1 - 1)]) := ⟨_, rfl⟩;replace H : (some y114) = some r := rH hy114 H;have Ny114 := Aside0.mk hy114;clear hy114;obtain rfl := Option.some.inj H;have hcz27_0 : wc.cell? ⟨gb101, 0, none⟩ = some (.int .i64 a0_0) := (blk_cell BK101.out 0).trans rfl;have hcz27_1 : wc.cell? ⟨gb101, 1, none⟩ = some (.int .i64 a0_1) := (blk_cell BK101.out 1).trans rfl;have hcz27_2 : wc.cell? ⟨gb101, 2, none⟩ = some (.slice A0_2 l0_2.length c0_2) := (blk_cell BK101.out 2).trans rfl;have hfz27_0 := blk_frozen BK101.out 0;have hfz27_1 := blk_frozen BK101.out 1;have hfz27_2 := blk_frozen BK101.out 2
         go_wp2_with (first | ((with_reducible refine gate_builtin (b := .append) (xs := #[.tmp 49, .tmp 52]) rfl ?_); at_builtin; refine Kd.R_append (Kd.int .i64) (w0 := w) w.heap.size rfl (.tmp 49) (.tmp 52) 33 3 (.int .i64 0) 8 rfl Tryd.underlying33 info3 rfl (by decide) (by omega) u7 x7_10 (wrap64 (a1 - 1)) [.int .i64 (wrap64 (a1 - 1))] (fun _ => True) (fun _ => False) rfl rfl ?aP (fun _ hk => hk.elim) ?aF ?aO ?aB ?aS ?aL ?_; (case aP => exact rfl); (case aB => exact (bel HB)); (case aF => exact (fun _ _ => trivial)); (case aO => exact (rch HO_7)); (case aS => exact (below_size (bel HB))); (case aL => have := LMc26.out; omega); intro v115 w28 ho hb hg hat; rw [← Ny114.out] at ho; have n0_ := Aside0.mk (blk_grown (g := gb101) (o := .cells #[.int .i64 a0_0, .int .i64 a0_1, .slice A0_2 l0_2.length c0_2] 30 (0, 0)) blc hg (Kd.R_ne HO_7.out BK101.out (by decide))); have n1_ := Aside0.mk (hb); have n2_ := Aside0.mk (ho); clear BK101; clear HB; clear HO_7; have BK101 := n0_; have HB := n1_; have HO116 := n2_; clear n0_ n1_ n2_; clear ho hb hg hat))
         repeat (go_quiet (first | ((with_reducible refine gate_builtin (b := .append) (xs := #[.tmp 49, .tmp 52]) rfl ?_); at_builtin; refine Kd.R_append (Kd.int .i64) (w0 := w) w.heap.size rfl (.tmp 49) (.tmp 52) 33 3 (.int .i64 0) 8 rfl Tryd.underlying33 info3 rfl (by decide) (by omega) u7 x7_10 (wrap64 (a1 - 1)) [.int .i64 (wrap64 (a1 - 1))] (fun _ => True) (fun _ => False) rfl rfl ?aP (fun _ hk => hk.elim) ?aF ?aO ?aB ?aS ?aL ?_; (case aP => exact rfl); (case aB => exact (bel HB)); (case aF => exact (fun _ _ => trivial)); (case aO => exact (rch HO_7)); (case aS => exact (below_size (bel HB))); (case aL => have := LMc26.out; omega); intro v115 w28 ho hb hg hat; rw [← Ny114.out] at ho; have n0_ := Aside0.mk (blk_grown (g := gb101) (o := .cells #[.int .i64 a0_0, .int .i64 a0_1, .slice A0_2 l0_2.length c0_2] 30 (0, 0)) blc hg (Kd.R_ne HO_7.out BK101.out (by decide))); have n1_ := Aside0.mk (hb); have n2_ := Aside0.mk (ho); clear BK101; clear HB; clear HO_7; have BK101 := n0_; have HB := n1_; have HO116 := n2_; clear n0_ n1_ n2_; clear ho hb hg hat)); try go_wp2_with (first | ((with_reducible refine gate_builtin (b := .append) (xs := #[.tmp 49, .tmp 52]) rfl ?_); at_builtin; refine Kd.R_append (Kd.int .i64) (w0 := w) w.heap.size rfl (.tmp 49) (.tmp 52) 33 3 (.int .i64 0) 8 rfl Tryd.underlying33 info3 rfl (by decide) (by omega) u7 x7_10 (wrap64 (a1 - 1)) [.int .i64 (wrap64 (a1 - 1))] (fun _ => True) (fun _ => False) rfl rfl ?aP (fun _ hk => hk.elim) ?aF ?aO ?aB ?aS ?aL ?_; (case aP => exact rfl); (case aB => exact (bel HB)); (case aF => exact (fun _ _ => trivial)); (case aO => exact (rch HO_7)); (case aS => exact (below_size (bel HB))); (case aL => have := LMc26.out; omega); intro v115 w28 ho hb hg hat; rw [← Ny114.out] at ho; have n0_ := Aside0.mk (blk_grown (g := gb101) (o := .cells #[.int .i64 a0_0, .int .i64 a0_1, .slice A0_2 l0_2.length c0_2] 30 (0, 0)) blc hg (Kd.R_ne HO_7.out BK101.out (by decide))); have n1_ := Aside0.mk (hb); have n2_ := Aside0.mk (ho); clear BK101; clear HB; clear HO_7; have BK101 := n0_; have HB := n1_; have HO116 := n2_; clear n0_ n1_ n2_; clear ho hb hg hat)))
         go_ret
         exact ⟨_, by first | rfl | (simp [errW_none, errW_some] <;> rfl) | (simp [*, errW_none, errW_some] <;> rfl), rch HO116, bel HB⟩
        ·rw [if_neg c26] at H
         exact absurd H (by simp)
       ·rw [if_neg c25] at H
        have c25b0 : decide (0 < (Int.tmod a1 a0_0)) = false := decide_eq_false c25;clear c25;obtain rfl := Option.some.inj H;have hcz29_0 : wc.cell? ⟨gb101, 0, none⟩ = some (.int .i64 a0_0) := (blk_cell BK101.out 0).trans rfl;have hcz29_1 : wc.cell? ⟨gb101, 1, none⟩ = some (.int .i64 a0_1) := (blk_cell BK101.out 1).trans rfl;have hcz29_2 : wc.cell? ⟨gb101, 2, none⟩ = some (.slice A0_2 l0_2.length c0_2) := (blk_cell BK101.out 2).trans rfl;have hfz29_0 := blk_frozen BK101.out 0;have hfz29_1 := blk_frozen BK101.out 1;have hfz29_2 := blk_frozen BK101.out 2
        go_wp2
        repeat (go_quiet (fail); try go_wp2)
        go_ret
        exact ⟨_, by first | rfl | (simp [errW_none, errW_some] <;> rfl) | (simp [*, errW_none, errW_some] <;> rfl), rch HO_7, bel HB⟩
end Go.Proofs.YtkjlfgceodindaaDoor.Q
end
