/- Texts of this claim, joined. -/
import Derived.Test.YtggdmblknkcigaaDoorJParsePuzzle01
import Derived.Lib.SlTrimSet
import Derived.Lib.AtoiAllCases
import Derived.Deep.LoopGhost
import Derived.Deep.Draws
import Derived.RangeFuncBox
set_option linter.unusedVariables false
set_option linter.unusedSimpArgs false
set_option linter.unusedSectionVars false
section
namespace Go.Proofs.YtggdmblknkcigaaDoor.Q
open Go.RowKit Go.Proofs.YtggdmblknkcigaaDoorW.PrintWords Go.Proofs.YtggdmblknkcigaaDoorW.PrintLast Go.Proofs.YtggdmblknkcigaaDoorW.PrintMore
def Ev {α : Type} (g : Nat → Option α) (r : α) : Prop := ∃ k0, ∀ k, k0 ≤ k → g k = some r
theorem Ev.step {α : Type} {g g' : Nat → Option α} {r : α} (h : Ev g' r) (e : ∀ k, g (k + 1) = g' k) : Ev g r := by
 obtain ⟨k0, h⟩ := h
 refine ⟨k0 + 1, fun k hk => ?_⟩
 obtain ⟨m, rfl⟩ : ∃ m, k = m + 1 := ⟨k - 1, by omega⟩
 rw [e]
 exact h m (by omega)
theorem Ev.congr {α : Type} {g g' : Nat → Option α} {r : α} (h : Ev g' r) (e : ∀ k, g k = g' k) : Ev g r := by
 obtain ⟨k0, h⟩ := h
 exact ⟨k0, fun k hk => (e k).trans (h k hk)⟩
theorem Ev.const {α : Type} {o : Option α} {r : α} (h : o = some r) : Ev (fun _ => o) r := ⟨0, fun _ _ => h⟩
theorem Ev.bind {α β : Type} {g : Nat → Option α} {f : Nat → α → Option β} {a : α} {r : β} (h1 : Ev g a) (h2 : Ev (fun k => f k a) r) : Ev (fun k => (g k).bind (f k)) r := by
 obtain ⟨k1, h1⟩ := h1
 obtain ⟨k2, h2⟩ := h2
 refine ⟨max k1 k2, fun k hk => ?_⟩
 show (g k).bind (f k) = some r
 rw [h1 k (by omega)]
 exact h2 k (by omega)
theorem Ev.out {α : Type} {g : Nat → Option α} {r : α} (h : Ev g r) : ∃ k, g k = some r := by
 obtain ⟨k, h⟩ := h
 exact ⟨k, h k (Nat.le_refl _)⟩
theorem ite_iff {p q : Prop} [Decidable p] [Decidable q] {α : Type} {x y : α} (h : p ↔ q) : (if p then x else y) = if q then x else y := by
 by_cases hq : q
 ·rw [if_pos hq, if_pos (h.2 hq)]
 ·rw [if_neg hq, if_neg fun hp => hq (h.1 hp)]
theorem w64 {n : Int} (h0 : -9223372036854775808 ≤ n) (h1 : n < 9223372036854775808) : wrap64 n = n := by unfold wrap64; omega
def cellSet : List UInt8 := [35, 46, 111, 97, 98, 99, 100, 101, 102]
def isCellB (b : UInt8) : Bool := cellSet.contains b
def ints (l : List UInt8) : List Int := l.map fun b => (b.toNat : Int)
theorem tyIs_eq (b : UInt8) : spec_tyIs.f (b.toNat : Int) = some (isCellB b) := by
 have h : ∀ n : Fin 256, spec_tyIs.f (n.val : Int) = some (isCellB (UInt8.ofNat n.val)) := by decide +kernel
 have h2 := h ⟨b.toNat, b.toNat_lt⟩
 simpa using h2
theorem ints_length (l : List UInt8) : (ints l).length = l.length := by simp [ints]
theorem ints_append (l m : List UInt8) : ints (l ++ m) = ints l ++ ints m := by simp [ints]
theorem ints_count (c : UInt8) : ∀ l : List UInt8, (ints l).count (c.toNat : Int) = l.count c
 | [] => rfl
 | b :: l => by
  have ih := ints_count c l
  by_cases e : b = c
  ·subst e
   rw [List.count_cons_self, ← ih]
   exact List.count_cons_self
  ·rw [List.count_cons_of_ne e, ← ih]
   refine List.count_cons_of_ne ?_
   intro e2
   have e3 : (b.toNat : Int) = (c.toNat : Int) := e2
   exact e (UInt8.toNat_inj.1 (by omega))
def namedOK (cs : List Int) : Prop := ∀ c : Int, 97 ≤ c → c ≤ 102 → cs.count c ≤ 1
instance (cs : List Int) : Decidable (namedOK cs) :=
 decidable_of_iff (∀ n : Fin 6, cs.count (97 + (n.val : Int)) ≤ 1) ⟨fun h c h1 h2 => by
  have h3 : cs.count (97 + ((c - 97).toNat : Int)) ≤ 1 := h ⟨(c - 97).toNat, by omega⟩
  rw [show (97 + ((c - 97).toNat : Int)) = c by omega] at h3
  exact h3, fun h n => h _ (by omega) (by omega)⟩
theorem namedOK_nil : namedOK [] := fun c _ _ => by simp
theorem namedOK_snoc (cs : List Int) (x : Int) (h : namedOK cs) : namedOK (cs ++ [x]) ↔ ¬ (97 ≤ x ∧ x ≤ 102 ∧ x ∈ cs) := by
 constructor
 ·intro h2 ⟨h3, h4, h5⟩
  have := h2 x h3 h4
  have h6 : 0 < cs.count x := List.count_pos_iff.2 h5
  rw [List.count_append, List.count_singleton_self] at this
  omega
 ·intro h2 c h3 h4
  rw [List.count_append]
  by_cases e : x = c
  ·subst e
   have : cs.count x = 0 := List.count_eq_zero.2 fun h5 => h2 ⟨h3, h4, h5⟩
   rw [this, List.count_singleton_self]
   omega
  ·have h5 := h c h3 h4
   have : [x].count c = 0 := by
    rw [List.count_eq_zero]
    simp
    exact fun e2 => e e2.symm
   omega
theorem namedOK_take (cs : List Int) (i : Nat) (h : namedOK cs) : namedOK (cs.take i) := fun c h1 h2 =>
 Nat.le_trans ((List.take_sublist i cs).count_le c) (h c h1 h2)
theorem rows_size (c : UInt8) : ∀ l, (rows c l).flatten.length + (rows c l).length = l.length + 1
 | [] => by simp [rows]
 | b :: l => by
  have ih := rows_size c l
  unfold rows
  split
  ·simp only [List.flatten_cons, List.nil_append, List.length_cons]; omega
  ·split
   ·rename_i e; exact absurd e (rows_ne c l)
   ·rename_i r rs e
    rw [e] at ih
    simp only [List.flatten_cons, List.length_append, List.length_cons] at ih ⊢
    omega
theorem rows_count (c d : UInt8) (hd : d ≠ c) : ∀ l, (rows c l).flatten.count d = l.count d
 | [] => by simp [rows]
 | b :: l => by
  have ih := rows_count c d hd l
  unfold rows
  split
  ·rename_i e
   subst e
   rw [List.flatten_cons, List.nil_append, ih, List.count_cons_of_ne (Ne.symm hd)]
  ·split
   ·rename_i e; exact absurd e (rows_ne c l)
   ·rename_i r rs e
    rw [e] at ih
    rw [List.flatten_cons] at ih ⊢
    rw [List.cons_append, List.count_cons, ih, List.count_cons]
def tw (rs : List (List UInt8)) : Nat := (rs.headD []).length
def evenRows (w : Nat) (rs : List (List UInt8)) : Prop := ∀ r ∈ rs, r.length = w ∧ r.all isCellB = true
instance (w : Nat) (rs : List (List UInt8)) : Decidable (evenRows w rs) := inferInstanceAs (Decidable (∀ r ∈ rs, _))
theorem evenRows_cons (w : Nat) (r : List UInt8) (rs : List (List UInt8)) : evenRows w (r :: rs) ↔ (r.length = w ∧ r.all isCellB = true) ∧ evenRows w rs := by
 unfold evenRows
 simp only [List.mem_cons, forall_eq_or_imp]
theorem evenRows_flat (w : Nat) : ∀ rs, evenRows w rs → rs.flatten.length = w * rs.length
 | [], _ => by simp
 | r :: rs, h => by
  have h2 := (evenRows_cons w r rs).1 h
  rw [List.flatten_cons, List.length_append, evenRows_flat w rs h2.2, h2.1.1, List.length_cons, Nat.mul_add, Nat.mul_one]
  omega
def okRows (rs : List (List UInt8)) : Prop := (1 ≤ tw rs ∧ tw rs ≤ 7 ∧ rs.length ≤ 7 ∧ tw rs * rs.length ≤ 36) ∧ evenRows (tw rs) rs ∧ namedOK (ints rs.flatten)
instance (rs : List (List UInt8)) : Decidable (okRows rs) := inferInstanceAs (Decidable (_ ∧ _ ∧ _))
def trayRows (rs : List (List UInt8)) : Option (Int × Int × List Int) := if okRows rs then some (tw rs, rs.length, ints rs.flatten) else none
def trayOf (s : ByteArray) : Option (Int × Int × List Int) := trayRows (rows 47 s.data.toList)
theorem trayOf_small (s : ByteArray) (h : trayOf s ≠ none) : s.size ≤ 42 := by
 unfold trayOf trayRows at h
 split at h
 ·rename_i hk
  have h1 := rows_size 47 s.data.toList
  have h2 := evenRows_flat _ _ hk.2.1
  have h3 := data_length s
  have := hk.1
  omega
 ·exact absurd rfl h
def failT : Int × Int × List Int × Bool := (0, 0, [], false)
def tellT : Option (Int × Int × List Int) → Int × Int × List Int × Bool
 | none => failT
 | some (w, h, cs) => (w, h, cs, true)
theorem ty_l2 (cs pre : List Int) (i w h : Int) (x : Int) (K : Int × Int × List Int × Bool) (hl : pre.length ≤ 36)
  (hK : Ev (fun k => spec_tyRead.l1 k cs cs.length (wrap64 (i + 1)) w h cs) K) :
  ∀ (m j : Nat), j + m = pre.length → Ev (fun k => spec_tyRead.l2 k x cs cs.length i pre pre.length j w h cs) (if 97 ≤ x ∧ x ≤ 102 ∧ x ∈ pre.drop j then failT else K)
 | 0, j, hj => by
  refine Ev.step (g' := fun k => spec_tyRead.l1 k cs cs.length (wrap64 (i + 1)) w h cs) ?_ (fun k => ?_)
  ·rw [List.drop_eq_nil_of_le (by omega), if_neg (by simp)]
   exact hK
  ·rw [spec_tyRead.l2, if_neg (by omega)]
 | m + 1, j, hj => by
  have ih := ty_l2 cs pre i w h x K hl hK m (j + 1) (by omega)
  have hlt : j < pre.length := by omega
  have hd : pre.drop j = pre[j] :: pre.drop (j + 1) := List.drop_eq_getElem_cons hlt
  have hr : rd pre (j : Int) = pre[j] := by
   unfold rd
   rw [Int.toNat_natCast, List.getD_eq_getElem?_getD, List.getElem?_eq_getElem hlt]
   rfl
  have hw : wrap64 ((j : Int) + 1) = ((j + 1 : Nat) : Int) := by rw [w64 (by omega) (by omega)]; omega
  rw [hd]
  by_cases hx : x = pre[j] ∧ 97 ≤ x ∧ x ≤ 102
  ·rw [if_pos ⟨hx.2.1, hx.2.2, by rw [hx.1]; exact List.mem_cons_self⟩]
   refine Ev.step (Ev.const (o := some failT) rfl) (fun k => ?_)
   rw [spec_tyRead.l2, if_pos (by omega), if_pos (by omega), if_pos (by omega), hr, if_pos hx.1, if_pos (by omega), if_pos (by omega)]
   rfl
  ·have e : (97 ≤ x ∧ x ≤ 102 ∧ x ∈ pre[j] :: pre.drop (j + 1)) ↔ (97 ≤ x ∧ x ≤ 102 ∧ x ∈ pre.drop (j + 1)) := by
    constructor
    ·rintro ⟨h1, h2, h3⟩
     refine ⟨h1, h2, (List.mem_cons.1 h3).resolve_left fun e => hx ⟨e, h1, h2⟩⟩
    ·rintro ⟨h1, h2, h3⟩
     exact ⟨h1, h2, List.mem_cons_of_mem _ h3⟩
   rw [ite_iff e]
   refine Ev.step ih (fun k => ?_)
   rw [spec_tyRead.l2, if_pos (by omega), if_pos (by omega), if_pos (by omega), hr, hw]
   by_cases h1 : x = pre[j]
   ·rw [if_pos h1]
    by_cases h2 : x ≥ 97
    ·rw [if_pos h2, if_neg (fun h3 => hx ⟨h1, h2, h3⟩)]
    ·rw [if_neg h2]
   ·rw [if_neg h1]
theorem ty_l2_hit (cs pre : List Int) (i w h x : Int) (hl : pre.length ≤ 36) (h1 : 97 ≤ x) (h2 : x ≤ 102) :
  ∀ (m j : Nat), j + m = pre.length → x ∈ pre.drop j → Ev (fun k => spec_tyRead.l2 k x cs cs.length i pre pre.length j w h cs) failT
 | 0, j, hj, hx => by
  rw [List.drop_eq_nil_of_le (by omega)] at hx
  exact absurd hx (by simp)
 | m + 1, j, hj, hx => by
  have hlt : j < pre.length := by omega
  have hd : pre.drop j = pre[j] :: pre.drop (j + 1) := List.drop_eq_getElem_cons hlt
  have hr : rd pre (j : Int) = pre[j] := by
   unfold rd
   rw [Int.toNat_natCast, List.getD_eq_getElem?_getD, List.getElem?_eq_getElem hlt]
   rfl
  have hw : wrap64 ((j : Int) + 1) = ((j + 1 : Nat) : Int) := by rw [w64 (by omega) (by omega)]; omega
  by_cases hp : x = pre[j]
  ·refine Ev.step (Ev.const (o := some failT) rfl) (fun k => ?_)
   rw [spec_tyRead.l2, if_pos (by omega), if_pos (by omega), if_pos (by omega), hr, if_pos hp, if_pos (by omega), if_pos (by omega)]
   rfl
  ·rw [hd] at hx
   refine Ev.step (ty_l2_hit cs pre i w h x hl h1 h2 m (j + 1) (by omega) ((List.mem_cons.1 hx).resolve_left hp)) (fun k => ?_)
   rw [spec_tyRead.l2, if_pos (by omega), if_pos (by omega), if_pos (by omega), hr, hw, if_neg hp]
theorem ty_l1 (cs : List Int) (w h : Int) (hl : cs.length ≤ 36) :
  ∀ (m i : Nat), i + m = cs.length → namedOK (cs.take i) → Ev (fun k => spec_tyRead.l1 k cs cs.length i w h cs) (if namedOK cs then (w, h, cs, true) else failT)
 | 0, i, hi, hn => by
  have e : cs.take i = cs := List.take_of_length_le (by omega)
  rw [e] at hn
  rw [if_pos hn]
  refine Ev.step (Ev.const (o := some (w, h, cs, true)) rfl) (fun k => ?_)
  rw [spec_tyRead.l1, if_neg (by omega)]
 | m + 1, i, hi, hn => by
  have hlt : i < cs.length := by omega
  have hr : rd cs (i : Int) = cs[i] := by
   unfold rd
   rw [Int.toNat_natCast, List.getD_eq_getElem?_getD, List.getElem?_eq_getElem hlt]
   rfl
  have hw : wrap64 ((i : Int) + 1) = ((i + 1 : Nat) : Int) := by rw [w64 (by omega) (by omega)]; omega
  have ht : cs.take (i + 1) = cs.take i ++ [cs[i]] := List.take_succ_eq_append_getElem hlt
  have hs := namedOK_snoc (cs.take i) cs[i] hn
  have hpl : (cs.take i).length ≤ 36 := by rw [List.length_take]; omega
  have hb : ∀ K, Ev (fun k => spec_tyRead.l1 k cs cs.length (wrap64 ((i : Int) + 1)) w h cs) K →
    Ev (fun k => spec_tyRead.l1 k cs cs.length i w h cs) (if 97 ≤ cs[i] ∧ cs[i] ≤ 102 ∧ cs[i] ∈ cs.take i then failT else K) := by
   intro K hK
   have h2 := ty_l2 cs (cs.take i) i w h cs[i] K hpl hK (cs.take i).length 0 (by omega)
   refine Ev.step h2 (fun k => ?_)
   rw [spec_tyRead.l1, if_pos (by omega), if_pos (by omega), if_pos (by omega), if_pos (by omega), hr]
   simp only [Option.bind_some, Int.toNat_natCast]
   rfl
  by_cases hc : 97 ≤ cs[i] ∧ cs[i] ≤ 102 ∧ cs[i] ∈ cs.take i
  ·have h3 : ¬ namedOK cs := fun h4 => by
    have h5 := namedOK_take cs (i + 1) h4
    rw [ht] at h5
    exact hs.1 h5 hc
   rw [if_neg h3]
   -- the tail's answer does not matter: the inner walk fails first
   refine Ev.step (g' := fun k => spec_tyRead.l2 k cs[i] cs cs.length i (cs.take i) (cs.take i).length 0 w h cs) ?_ (fun k => ?_)
   ·exact ty_l2_hit cs (cs.take i) i w h cs[i] hpl hc.1 hc.2.1 (cs.take i).length 0 (by omega) hc.2.2
   ·rw [spec_tyRead.l1, if_pos (by omega), if_pos (by omega), if_pos (by omega), if_pos (by omega), hr]
    simp only [Option.bind_some, Int.toNat_natCast]
  ·have h4 := ty_l1 cs w h hl m (i + 1) (by omega) (by rw [ht]; exact hs.2 hc)
   rw [← hw] at h4
   have h5 := hb _ h4
   rwa [if_neg hc] at h5
def rr : List (List UInt8) → Nat → Nat → Nat → List Int → Option (Nat × Nat × List Int)
 | [], _, w, h, cs => some (w, h, cs)
 | r :: rs, x, w, h, cs => if r.all isCellB = true ∧ x + r.length ≠ 0 ∧ (h = 0 ∨ x + r.length = w) then rr rs 0 (x + r.length) (h + 1) (cs ++ ints r) else none
def tellR : Option (Nat × Nat × List Int) → Int × Int × List Int × Bool
 | none => failT
 | some (w, h, cs) => if (w ≤ 7 ∧ h ≤ 7 ∧ cs.length ≤ 36) ∧ namedOK cs then (w, h, cs, true) else failT
theorem ty_end (s : ByteArray) (w h : Nat) (cs : List Int) (i x : Int) (hi : ¬ i ≤ (s.size : Int)) : Ev (fun k => spec_tyRead.l0 k s x i w h cs) (tellR (some (w, h, cs))) := by
 by_cases hc : w ≤ 7 ∧ h ≤ 7 ∧ cs.length ≤ 36
 ·have h1 := ty_l1 cs w h hc.2.2 cs.length 0 (by omega) (by simpa using namedOK_nil)
  have e : tellR (some (w, h, cs)) = if namedOK cs then ((w : Int), (h : Int), cs, true) else failT := by
   unfold tellR
   exact ite_iff ⟨fun h2 => h2.2, fun h2 => ⟨hc, h2⟩⟩
  rw [e]
  refine Ev.step (g' := fun k => spec_tyRead.j2 k false w h cs) (Ev.step h1 fun k => ?_) (fun k => ?_)
  ·rw [spec_tyRead.j2, if_neg (by decide)]
   rfl
  ·rw [spec_tyRead.l0, if_neg hi, if_neg (by omega), if_neg (by omega), show decide ((cs.length : Int) > 36) = false from decide_eq_false (by omega)]
 ·have e : tellR (some (w, h, cs)) = failT := if_neg fun h2 => hc h2.1
  rw [e]
  refine Ev.step (g' := fun k => spec_tyRead.j2 k true w h cs) (Ev.step (Ev.const (o := some failT) rfl) fun k => ?_) (fun k => ?_)
  ·rw [spec_tyRead.j2, if_pos rfl]
   rfl
  ·rw [spec_tyRead.l0, if_neg hi]
   by_cases h1 : (w : Int) > 7
   ·rw [if_pos h1]
   ·rw [if_neg h1]
    by_cases h2 : (h : Int) > 7
    ·rw [if_pos h2]
    ·rw [if_neg h2, show decide ((cs.length : Int) > 36) = true from decide_eq_true (by omega)]
theorem ty_row (s : ByteArray) (x w h i : Nat) (cs : List Int) (hh : h ≤ 42) (hi : i ≤ 42) (K : Int × Int × List Int × Bool) (hK : Ev (fun k => spec_tyRead.l0 k s 0 ((i + 1 : Nat) : Int) x ((h + 1 : Nat) : Int) cs) K) :
  Ev (fun k => spec_tyRead.j1 k s x i false w h cs) (if x ≠ 0 ∧ (h = 0 ∨ x = w) then K else failT) := by
 have hw1 : wrap64 ((i : Int) + 1) = ((i + 1 : Nat) : Int) := by rw [w64 (by omega) (by omega)]; omega
 have hw2 : wrap64 ((h : Int) + 1) = ((h + 1 : Nat) : Int) := by rw [w64 (by omega) (by omega)]; omega
 by_cases hc : x ≠ 0 ∧ (h = 0 ∨ x = w)
 ·rw [if_pos hc]
  refine Ev.step hK fun k => ?_
  rw [spec_tyRead.j1, if_neg (by decide), hw1, hw2]
  by_cases h1 : (h : Int) > 0
  ·rw [if_pos h1, if_pos (by omega), if_neg (by omega)]
  ·rw [if_neg h1, if_neg (by omega)]
 ·rw [if_neg hc]
  refine Ev.step (Ev.const (o := some failT) rfl) fun k => ?_
  rw [spec_tyRead.j1, if_neg (by decide)]
  by_cases h1 : (h : Int) > 0
  ·rw [if_pos h1]
   by_cases h2 : (x : Int) = w
   ·rw [if_pos h2, if_pos (by omega)]
    rfl
   ·rw [if_neg h2]
    rfl
  ·rw [if_neg h1, if_pos (by omega)]
   rfl
theorem bt_drop (s : ByteArray) (i : Nat) (b : UInt8) (l : List UInt8) (h : s.data.toList.drop i = b :: l) : bt s (i : Int) = b.toNat ∧ i < s.size ∧ s.data.toList.drop (i + 1) = l := by
 have h1 : i < s.data.toList.length := by
  rcases Nat.lt_or_ge i s.data.toList.length with h2 | h2
  ·exact h2
  ·rw [List.drop_eq_nil_of_le h2] at h
   cases h
 have h2 := List.drop_eq_getElem_cons h1
 rw [h] at h2
 injection h2 with h3 h4
 have hlt : i < s.size := by rw [← data_length]; exact h1
 refine ⟨?_, hlt, h4.symm⟩
 rw [← rd_bytesOf]
 unfold rd bytesOf
 rw [Int.toNat_natCast, List.getD_eq_getElem?_getD, List.getElem?_map, List.getElem?_eq_getElem h1, ← h3]
 rfl
theorem ty_l0 (s : ByteArray) (hs : s.size ≤ 42) : ∀ (rest : List UInt8) (i x w h : Nat) (cs : List Int), s.data.toList.drop i = rest → i ≤ s.size → x ≤ i → h ≤ i → cs.length ≤ i →
  Ev (fun k => spec_tyRead.l0 k s x i w h cs) (tellR (rr (rows 47 rest) x w h cs))
 | [], i, x, w, h, cs, hd, hi, hx, hh, hc => by
  have hle : i = s.size := by
   have : s.data.toList.length ≤ i := List.drop_eq_nil_iff.1 hd
   rw [data_length] at this
   omega
  subst hle
  have h1 := ty_end s x (h + 1) cs ((s.size + 1 : Nat) : Int) 0 (by omega)
  have h2 := ty_row s x w h s.size cs (by omega) (by omega) _ h1
  have e : tellR (rr (rows 47 []) x w h cs) = if x ≠ 0 ∧ (h = 0 ∨ x = w) then tellR (some (x, h + 1, cs)) else failT := by
   simp only [rows, rr, List.all_nil, true_and, List.length_nil, Nat.add_zero, ints, List.map_nil, List.append_nil]
   by_cases hc : x ≠ 0 ∧ (h = 0 ∨ x = w)
   ·rw [if_pos hc, if_pos hc]
   ·rw [if_neg hc, if_neg hc]
    rfl
  rw [e]
  refine Ev.step h2 fun k => ?_
  rw [spec_tyRead.l0, if_pos (by omega), if_neg (by omega)]
 | b :: l, i, x, w, h, cs, hd, hi, hx, hh, hc => by
  obtain ⟨hb, hlt, hd2⟩ := bt_drop s i b l hd
  have hw1 : wrap64 ((i : Int) + 1) = ((i + 1 : Nat) : Int) := by rw [w64 (by omega) (by omega)]; omega
  have hw2 : wrap64 ((x : Int) + 1) = ((x + 1 : Nat) : Int) := by rw [w64 (by omega) (by omega)]; omega
  by_cases h47 : b = 47
  ·subst h47
   have h1 := ty_l0 s hs l (i + 1) 0 x (h + 1) cs hd2 (by omega) (by omega) (by omega) (by omega)
   have h2 := ty_row s x w h i cs (by omega) (by omega) _ h1
   have e : tellR (rr (rows 47 (47 :: l)) x w h cs) = if x ≠ 0 ∧ (h = 0 ∨ x = w) then tellR (rr (rows 47 l) 0 x (h + 1) cs) else failT := by
    rw [rows, if_pos rfl]
    simp only [rr, List.all_nil, true_and, List.length_nil, Nat.add_zero, ints, List.map_nil, List.append_nil]
    by_cases hc : x ≠ 0 ∧ (h = 0 ∨ x = w)
    ·rw [if_pos hc, if_pos hc]
    ·rw [if_neg hc, if_neg hc]
     rfl
   rw [e]
   refine Ev.step h2 fun k => ?_
   rw [spec_tyRead.l0, if_pos (by omega), if_pos (by omega), if_pos (by omega), hb]
   rfl
  ·have hne : ((b.toNat : Int) != 47) = true := by
    rw [bne_iff_ne]
    intro e
    apply h47
    apply UInt8.toNat_inj.1
    show b.toNat = 47
    omega
   obtain ⟨r, rs, e1⟩ : ∃ r rs, rows 47 l = r :: rs := by
    rcases e : rows 47 l with _ | ⟨r, rs⟩
    ·exact absurd e (rows_ne 47 l)
    ·exact ⟨r, rs, rfl⟩
   have e2 : rows 47 (b :: l) = (b :: r) :: rs := by rw [rows, if_neg h47, e1]
   have hstep : ∀ g : Nat → Option (Int × Int × List Int × Bool), ∀ K, Ev g K → (∀ k, spec_tyRead.j1 (k + 1) s x i true w h cs = g k) → Ev (fun k => spec_tyRead.l0 k s x i w h cs) K := by
    intro g K hg he
    refine Ev.step (g' := fun k => spec_tyRead.j1 k s x i true w h cs) (Ev.step hg he) fun k => ?_
    rw [spec_tyRead.l0, if_pos (by omega), if_pos (by omega), if_pos (by omega), hb, hne]
   by_cases hcb : isCellB b = true
   ·have h1 := ty_l0 s hs l (i + 1) (x + 1) w h (cs ++ [(b.toNat : Int)]) hd2 (by omega) (by omega) (by omega) (by rw [List.length_append]; simp; omega)
    have e : rr (rows 47 (b :: l)) x w h cs = rr (rows 47 l) (x + 1) w h (cs ++ [(b.toNat : Int)]) := by
     rw [e1, e2]
     simp only [rr, List.all_cons, hcb, Bool.true_and, List.length_cons, ints, List.map_cons, List.append_assoc, List.cons_append, List.nil_append]
     rw [show x + (r.length + 1) = x + 1 + r.length by omega]
    rw [e]
    refine hstep _ _ h1 fun k => ?_
    rw [spec_tyRead.j1, if_pos rfl, if_pos (by omega), if_pos (by omega), hb, tyIs_eq, hcb, Option.bind_some, if_pos rfl, if_pos (by omega), hw1, hw2]
   ·have e : tellR (rr (rows 47 (b :: l)) x w h cs) = failT := by
     rw [e2, rr, if_neg (fun h3 => by have h4 := h3.1; simp [hcb] at h4)]
     rfl
    rw [e]
    refine hstep (fun _ => some failT) _ (Ev.const rfl) fun k => ?_
    rw [spec_tyRead.j1, if_pos rfl, if_pos (by omega), if_pos (by omega), hb, tyIs_eq, Bool.eq_false_iff.2 hcb, Option.bind_some, if_neg (by decide)]
    rfl
theorem rr_more (w : Nat) (hw : w ≠ 0) : ∀ (rs : List (List UInt8)) (h : Nat) (cs : List Int), 0 < h → rr rs 0 w h cs = if evenRows w rs then some (w, h + rs.length, cs ++ ints rs.flatten) else none
 | [], h, cs, hh => by
  rw [if_pos (show evenRows w [] from fun r hr => by simp at hr)]
  simp [rr, ints]
 | r :: rs, h, cs, hh => by
  have ih := rr_more w hw rs (h + 1) (cs ++ ints r) (by omega)
  unfold rr
  rw [ite_iff (evenRows_cons w r rs)]
  by_cases hc : r.length = w ∧ r.all isCellB = true
  ·rw [if_pos ⟨hc.2, by omega, Or.inr (by omega)⟩, Nat.zero_add, hc.1, ih]
   by_cases h2 : evenRows w rs
   ·rw [if_pos h2, if_pos ⟨⟨rfl, hc.2⟩, h2⟩]
    simp only [List.length_cons, List.flatten_cons, ints_append, List.append_assoc]
    rw [show h + 1 + rs.length = h + (rs.length + 1) by omega]
   ·rw [if_neg h2, if_neg fun h3 => h2 h3.2]
  ·rw [if_neg (fun h3 => hc ⟨by have := h3.2.2; omega, h3.1⟩), if_neg fun h3 => hc h3.1]
theorem rr_all (rs : List (List UInt8)) (hn : rs ≠ []) : rr rs 0 0 0 [] = if tw rs ≠ 0 ∧ evenRows (tw rs) rs then some (tw rs, rs.length, ints rs.flatten) else none := by
 rcases rs with _ | ⟨r, rs⟩
 ·exact absurd rfl hn
 ·have e : tw (r :: rs) = r.length := rfl
  unfold rr
  rw [e]
  by_cases hc : r.all isCellB = true ∧ r.length ≠ 0
  ·rw [if_pos ⟨hc.1, by omega, Or.inl rfl⟩, Nat.zero_add, rr_more r.length hc.2 rs 1 _ (by omega)]
   rw [ite_iff (evenRows_cons r.length r rs |> fun h => show evenRows r.length rs ↔ r.length ≠ 0 ∧ evenRows r.length (r :: rs) from ⟨fun h2 => ⟨hc.2, h.2 ⟨⟨rfl, hc.1⟩, h2⟩⟩, fun h2 => (h.1 h2.2).2⟩)]
   simp only [List.length_cons, List.flatten_cons, ints_append, List.nil_append]
   rw [show 1 + rs.length = rs.length + 1 by omega]
  ·rw [if_neg (fun h3 => hc ⟨h3.1, by have := h3.2.1; omega⟩), if_neg fun h3 => hc ⟨((evenRows_cons _ _ _).1 h3.2).1.2, h3.1⟩]
theorem tyRead_ev (s : ByteArray) : Ev (fun k => spec_tyRead.f k s) (tellT (trayOf s)) := by
 by_cases hs : s.size ≤ 42
 ·have h1 := ty_l0 s hs s.data.toList 0 0 0 0 [] rfl (by omega) (by omega) (by omega) (by simp)
  have e : tellR (rr (rows 47 s.data.toList) 0 0 0 []) = tellT (trayOf s) := by
   rw [rr_all _ (rows_ne 47 _)]
   unfold trayOf trayRows
   have h2 := evenRows_flat (tw (rows 47 s.data.toList)) (rows 47 s.data.toList)
   generalize rows 47 s.data.toList = rs at h2 ⊢
   by_cases hc : tw rs ≠ 0 ∧ evenRows (tw rs) rs
   ·rw [if_pos hc]
    have h3 := h2 hc.2
    show (if _ then _ else _) = _
    rw [ite_iff (show ((tw rs ≤ 7 ∧ rs.length ≤ 7 ∧ (ints rs.flatten).length ≤ 36) ∧ namedOK (ints rs.flatten)) ↔ okRows rs by
     rw [ints_length, h3]
     exact ⟨fun h => ⟨⟨by omega, h.1⟩, hc.2, h.2⟩, fun h => ⟨h.1.2, h.2.2⟩⟩)]
    by_cases h4 : okRows rs
    ·rw [if_pos h4, if_pos h4]
     rfl
    ·rw [if_neg h4, if_neg h4]
     rfl
   ·rw [if_neg hc, if_neg (fun h => hc ⟨by have := h.1.1; omega, h.2.1⟩)]
    rfl
  rw [← e]
  refine Ev.congr h1 fun k => ?_
  rw [spec_tyRead.f, if_neg (by omega)]
  rfl
 ·have e : trayOf s = none := by
   rcases h : trayOf s with _ | t
   ·rfl
   ·exact absurd (trayOf_small s (by rw [h]; exact fun e => nomatch e)) hs
  rw [e]
  refine Ev.congr (Ev.const (o := some failT) rfl) fun k => ?_
  rw [spec_tyRead.f, if_pos (by omega)]
  rfl
end Go.Proofs.YtggdmblknkcigaaDoor.Q
end
section
namespace Go.Proofs.YtggdmblknkcigaaDoor.Q
open Go.RowKit Go.Proofs.YtggdmblknkcigaaDoorW.PrintWords Go.Proofs.YtggdmblknkcigaaDoorW.PrintLast Go.Proofs.YtggdmblknkcigaaDoorW.PrintMore
theorem dw_nil {α : Type} (p : α → Bool) : ∀ l : List α, l.dropWhile p = [] ↔ ∀ b ∈ l, p b = true
 | [] => by simp
 | b :: l => by
  rw [List.dropWhile_cons]
  by_cases h : p b = true
  ·rw [if_pos h, dw_nil p l]
   simp [h]
  ·rw [if_neg h]
   simp [h]
theorem dw_all {α : Type} (p : α → Bool) : ∀ l : List α, (∀ b ∈ l.dropWhile p, p b = true) → ∀ b ∈ l, p b = true
 | [], _ => by simp
 | b :: l, h => by
  rw [List.dropWhile_cons] at h
  by_cases hb : p b = true
  ·rw [if_pos hb] at h
   have ih := dw_all p l h
   simpa [hb] using ih
  ·rw [if_neg hb] at h
   exact h
theorem trimS_nil (l cs : List UInt8) : Lib.trimS l cs = [] ↔ ∀ b ∈ l, cs.contains b = true := by
 unfold Lib.trimS Lib.trimLeftS Lib.trimRightS
 rw [dw_nil]
 constructor
 ·intro h
  have h2 := dw_all (cs.contains ·) l.reverse (fun b hb => h b (by simpa using hb))
  exact fun b hb => h2 b (by simpa using hb)
 ·intro h b hb
  rw [List.mem_reverse] at hb
  exact h b (by simpa using (List.dropWhile_sublist _).subset hb)
theorem trim_tell (s cut : ByteArray) (hs : s.size ≤ 1048576) (hc : cut.size < 100) (ha : asciiB cut.data.toList = true) :
  ∃ t, strings_Trim.f s cut = some t ∧ (t.toList = [] ↔ ∀ b ∈ s.data.toList, cut.data.toList.contains b = true) := by
 refine ⟨_, if_pos ⟨by omega, by omega, ha⟩, ?_⟩
 rw [← trimS_nil]
 generalize Lib.trimS s.data.toList cut.data.toList = l
 have e : (⟨l.toArray⟩ : ByteArray).toList = l := ByteArray.toList_mk l
 rw [e]
theorem encode_name : ∀ n : Fin 6, Utf8.encode (97 + (n.val : Int)) = ⟨#[UInt8.ofNat (97 + n.val)]⟩ := by decide +kernel
theorem count_name (s : ByteArray) (n : Nat) (h1 : 97 ≤ n) (h2 : n ≤ 102) : (runeS.f (n : Int)).bind (fun t => strings_Count.f s t) = some ((s.data.toList.count (UInt8.ofNat n) : Nat) : Int) := by
 have h := encode_name ⟨n - 97, by omega⟩
 simp only [show (97 + ((n - 97 : Nat) : Int)) = (n : Int) by omega, show 97 + (n - 97) = n by omega] at h
 unfold runeS.f
 rw [Option.bind_some, h]
 rfl
theorem it_l1 (s : ByteArray) : ∀ (m n : Nat), 97 ≤ n → n + m = 103 → ∀ R : Bool, (R = true ↔ ∀ c : Nat, n ≤ c → c ≤ 102 → s.data.toList.count (UInt8.ofNat c) ≤ 1) → Ev (fun k => impl_IsTray.l1 k s n) R
 | 0, n, h1, h2, R, hR => by
  obtain rfl : R = true := hR.2 fun c h3 h4 => by omega
  refine Ev.step (Ev.const (o := some true) rfl) fun k => ?_
  rw [impl_IsTray.l1, if_neg (by omega)]
 | m + 1, n, h1, h2, R, hR => by
  have hc := count_name s n h1 (by omega)
  obtain ⟨t, e1, e2⟩ := Option.bind_eq_some_iff.1 hc
  have hw : wrap32 ((n : Int) + 1) = ((n + 1 : Nat) : Int) := by unfold wrap32; omega
  by_cases hn : s.data.toList.count (UInt8.ofNat n) ≤ 1
  ·have ih := it_l1 s m (n + 1) (by omega) (by omega) R (hR.trans ⟨fun h c h3 h4 => h c (by omega) h4, fun h c h3 h4 => by
    by_cases h5 : n = c
    ·rw [← h5]; exact hn
    ·exact h c (by omega) h4⟩)
   refine Ev.step ih fun k => ?_
   rw [impl_IsTray.l1, if_pos (by omega), e1, Option.bind_some, e2, Option.bind_some, if_neg (by omega), hw]
  ·obtain rfl : R = false := Bool.eq_false_iff.2 fun h => hn (hR.1 h n (Nat.le_refl _) (by omega))
   refine Ev.step (Ev.const (o := some false) rfl) fun k => ?_
   rw [impl_IsTray.l1, if_pos (by omega), e1, Option.bind_some, e2, Option.bind_some, if_pos (by omega)]
theorem named_count (s : ByteArray) : namedOK (ints (rows 47 s.data.toList).flatten) ↔ ∀ c : Nat, 97 ≤ c → c ≤ 102 → s.data.toList.count (UInt8.ofNat c) ≤ 1 := by
 have h : ∀ c : Nat, 97 ≤ c → c ≤ 102 → (ints (rows 47 s.data.toList).flatten).count (c : Int) = s.data.toList.count (UInt8.ofNat c) := by
  intro c h1 h2
  have e : ((UInt8.ofNat c).toNat : Int) = c := by
   rw [UInt8.toNat_ofNat']
   omega
  rw [← e, ints_count, rows_count 47 (UInt8.ofNat c)]
  intro e2
  have := congrArg UInt8.toNat e2
  rw [UInt8.toNat_ofNat'] at this
  have h47 : (47 : UInt8).toNat = 47 := rfl
  omega
 constructor
 ·intro h1 c h2 h3
  rw [← h c h2 h3]
  exact h1 c (by omega) (by omega)
 ·intro h1 c h2 h3
  have h4 := h c.toNat (by omega) (by omega)
  rw [show ((c.toNat : Nat) : Int) = c by omega] at h4
  rw [h4]
  exact h1 _ (by omega) (by omega)
theorem within_eq (a lo hi : Int) : impl_within.f a lo hi = some (decide (lo ≤ a ∧ a ≤ hi)) := by
 unfold impl_within.f
 by_cases h : lo ≤ a
 ·rw [if_pos h]
  simp [h]
 ·rw [if_neg h]
  simp [h]
theorem isSize_eq (w h : Nat) (hw : w ≤ 1048576) (hh : h ≤ 1048577) : impl_isSize.f w h = some (decide (1 ≤ w ∧ w ≤ 7 ∧ 1 ≤ h ∧ h ≤ 7 ∧ w * h ≤ 36)) := by
 unfold impl_isSize.f
 rw [within_eq, Option.bind_some]
 by_cases h1 : 1 ≤ w ∧ w ≤ 7
 ·rw [decide_eq_true (by omega), if_pos rfl, within_eq, Option.bind_some]
  by_cases h2 : 1 ≤ h ∧ h ≤ 7
  ·rw [decide_eq_true (by omega), if_pos rfl]
   have h3 : w * h ≤ 7 * 7 := Nat.mul_le_mul h1.2 h2.2
   have e : wrap64 ((w : Int) * h) = ((w * h : Nat) : Int) := by
    rw [← Int.natCast_mul]
    exact w64 (by omega) (by omega)
   rw [e]
   congr 1
   exact decide_eq_decide.2 ⟨fun h => ⟨h1.1, h1.2, h2.1, h2.2, by omega⟩, fun h => by omega⟩
  ·rw [decide_eq_false (by omega), if_neg (by decide), decide_eq_false (by omega)]
 ·rw [decide_eq_false (by omega), if_neg (by decide), decide_eq_false (by omega)]
theorem rowsL_len (s : ByteArray) : (rowsL s).length = (rows 47 s.data.toList).length := by rw [← rowsL_map, List.length_map]
theorem rowsL_drop (s : ByteArray) (i : Nat) (h : i < (rowsL s).length) : (rows 47 s.data.toList).drop i = (rdOf ByteArray.empty (rowsL s) (i : Int)).data.toList :: (rows 47 s.data.toList).drop (i + 1) := by
 rw [← rowsL_map]
 have h2 : i < ((rowsL s).map (·.data.toList)).length := by rw [List.length_map]; exact h
 rw [List.drop_eq_getElem_cons h2]
 congr 1
 unfold rdOf
 rw [List.getElem_map, Int.toNat_natCast, List.getD_eq_getElem?_getD, List.getElem?_eq_getElem h]
 rfl
theorem rowsL_tw (s : ByteArray) (h : 0 < (rowsL s).length) : (rdOf ByteArray.empty (rowsL s) 0).size = tw (rows 47 s.data.toList) := by
 have e := rowsL_drop s 0 h
 rw [List.drop_zero] at e
 unfold tw
 rw [e, List.headD_cons, data_length]
 rfl
theorem rows_le (c : UInt8) (l r : List UInt8) (h : r ∈ rows c l) : r.length ≤ l.length := by
 have h1 := rows_flat c l
 have h2 : r.length ≤ (rows c l).flatten.length := (List.sublist_flatten_of_mem h).length_le
 omega
def cutAll : ByteArray := ⟨#[35, 46, 111, 97, 98, 99, 100, 101, 102]⟩
theorem it_l0 (s : ByteArray) (hs : s.size ≤ 1048576) (w : Nat) (hw : (rdOf ByteArray.empty (rowsL s) 0).size = w) (K : Bool) (hK : Ev (fun k => impl_IsTray.l1 k s 97) K) :
  ∀ (m i : Nat), i + m = (rowsL s).length → Ev (fun k => impl_IsTray.l0 k s (rowsL s) (rowsL s) (rowsL s).length i) (if evenRows w ((rows 47 s.data.toList).drop i) then K else false)
 | 0, i, hi => by
  have e : (rows 47 s.data.toList).drop i = [] := List.drop_eq_nil_of_le (by rw [← rowsL_len]; omega)
  rw [e, if_pos (show evenRows w [] from fun r hr => by simp at hr)]
  refine Ev.step hK fun k => ?_
  rw [impl_IsTray.l0, if_neg (by omega)]
 | m + 1, i, hi => by
  have ih := it_l0 s hs w hw K hK m (i + 1) (by omega)
  have hlt : i < (rowsL s).length := by omega
  have hlen : (rowsL s).length ≤ 1048577 := by
   have h1 := rows_size 47 s.data.toList
   have h2 := data_length s
   rw [rowsL_len]
   omega
  have hd := rowsL_drop s i hlt
  have hrow : (rdOf ByteArray.empty (rowsL s) (i : Int)).data.toList ∈ rows 47 s.data.toList := (List.drop_sublist i _).subset (by rw [hd]; exact List.mem_cons_self)
  have hsz : (rdOf ByteArray.empty (rowsL s) (i : Int)).size ≤ 1048576 := by
   have h1 := rows_le 47 _ _ hrow
   rw [data_length, data_length] at h1
   omega
  have hwr : wrap64 ((i : Int) + 1) = ((i + 1 : Nat) : Int) := by rw [w64 (by omega) (by omega)]; omega
  rw [hd]
  generalize hrw : rdOf ByteArray.empty (rowsL s) (i : Int) = row at hsz hd ⊢
  obtain ⟨t, et, ht⟩ := trim_tell row cutAll hsz (by decide) (by decide)
  have hcell : (∀ b ∈ row.data.toList, cutAll.data.toList.contains b = true) ↔ row.data.toList.all isCellB = true := by
   rw [List.all_eq_true]
   rfl
  rw [ite_iff ((evenRows_cons w row.data.toList ((rows 47 s.data.toList).drop (i + 1))).trans (show _ ↔ (row.size = w ∧ t.toList = []) ∧ evenRows w ((rows 47 s.data.toList).drop (i + 1)) by rw [← hcell, ← ht, data_length]))]
  by_cases h1 : row.size = w
  ·by_cases h2 : t.toList = []
   ·rw [ite_iff (show ((row.size = w ∧ t.toList = []) ∧ evenRows w ((rows 47 s.data.toList).drop (i + 1))) ↔ evenRows w ((rows 47 s.data.toList).drop (i + 1)) from ⟨fun h => h.2, fun h => ⟨⟨h1, h2⟩, h⟩⟩)]
    refine Ev.step ih fun k => ?_
    rw [impl_IsTray.l0, if_pos (by omega), if_pos (by omega), if_pos (by omega), if_pos (by omega), hrw, hw, if_pos (by omega)]
    show (strings_Trim.f row cutAll).bind _ = _
    rw [et, Option.bind_some, if_pos h2, hwr]
   ·rw [if_neg fun h => h2 h.1.2]
    refine Ev.step (Ev.const (o := some false) rfl) fun k => ?_
    rw [impl_IsTray.l0, if_pos (by omega), if_pos (by omega), if_pos (by omega), if_pos (by omega), hrw, hw, if_pos (by omega)]
    show (strings_Trim.f row cutAll).bind _ = _
    rw [et, Option.bind_some, if_neg h2]
  ·rw [if_neg fun h => h1 h.1.1]
   refine Ev.step (Ev.const (o := some false) rfl) fun k => ?_
   rw [impl_IsTray.l0, if_pos (by omega), if_pos (by omega), if_pos (by omega), if_pos (by omega), hrw, hw, if_neg (by omega)]
theorem isTray_ev (s : ByteArray) (hs : s.size ≤ 1048576) : Ev (fun k => impl_IsTray.f k s) (trayOf s).isSome := by
 have h1 := rows_size 47 s.data.toList
 have h2 := data_length s
 have h3 := rowsL_len s
 have hne : 0 < (rowsL s).length := by
  rw [h3]
  exact List.length_pos_iff.2 (rows_ne 47 _)
 have hw := rowsL_tw s hne
 have hwle : tw (rows 47 s.data.toList) ≤ 1048576 := by
  have e := rowsL_drop s 0 hne
  rw [List.drop_zero] at e
  have := rows_le 47 s.data.toList _ (by rw [e]; exact List.mem_cons_self)
  rw [data_length, data_length] at this
  have h4 : (rdOf ByteArray.empty (rowsL s) ((0 : Nat) : Int)).size = (rdOf ByteArray.empty (rowsL s) 0).size := rfl
  omega
 have hsp : strings_Split.f s ⟨#[47]⟩ = some (rowsL s) := if_pos ⟨by omega, by decide⟩
 have hss := isSize_eq (tw (rows 47 s.data.toList)) (rowsL s).length hwle (by omega)
 have hf : ∀ k, impl_IsTray.f k s = if decide (1 ≤ tw (rows 47 s.data.toList) ∧ tw (rows 47 s.data.toList) ≤ 7 ∧ 1 ≤ (rowsL s).length ∧ (rowsL s).length ≤ 7 ∧ tw (rows 47 s.data.toList) * (rowsL s).length ≤ 36) = true then impl_IsTray.l0 k s (rowsL s) (rowsL s) (rowsL s).length 0 else some false := by
  intro k
  unfold impl_IsTray.f
  rw [hsp, Option.bind_some, if_pos (by omega), hw, hss, Option.bind_some]
 refine Ev.congr ?_ hf
 unfold trayOf trayRows
 by_cases hc : 1 ≤ tw (rows 47 s.data.toList) ∧ tw (rows 47 s.data.toList) ≤ 7 ∧ 1 ≤ (rowsL s).length ∧ (rowsL s).length ≤ 7 ∧ tw (rows 47 s.data.toList) * (rowsL s).length ≤ 36
 ·rw [decide_eq_true hc]
  refine Ev.congr ?_ (fun k => if_pos rfl)
  have h5 := it_l0 s hs _ hw (decide (namedOK (ints (rows 47 s.data.toList).flatten))) (it_l1 s 6 97 (by omega) (by omega) _ (by rw [decide_eq_true_iff]; exact named_count s)) (rowsL s).length 0 (by omega)
  rw [List.drop_zero] at h5
  have e : (if okRows (rows 47 s.data.toList) then some ((tw (rows 47 s.data.toList) : Int), ((rows 47 s.data.toList).length : Int), ints (rows 47 s.data.toList).flatten) else none).isSome =
    if evenRows (tw (rows 47 s.data.toList)) (rows 47 s.data.toList) then decide (namedOK (ints (rows 47 s.data.toList).flatten)) else false := by
   by_cases h6 : evenRows (tw (rows 47 s.data.toList)) (rows 47 s.data.toList)
   ·by_cases h7 : namedOK (ints (rows 47 s.data.toList).flatten)
    ·rw [if_pos h6, if_pos (show okRows _ from ⟨by rw [h3] at hc; omega, h6, h7⟩), decide_eq_true h7]
     rfl
    ·rw [if_pos h6, if_neg fun h => h7 h.2.2, decide_eq_false h7]
     rfl
   ·rw [if_neg h6, if_neg fun h => h6 h.2.1]
    rfl
  rw [e]
  exact h5
 ·rw [if_neg fun h => hc (by have h4 := h.1; rw [h3]; omega), decide_eq_false hc]
  exact Ev.congr (Ev.const (o := some false) rfl) (fun k => if_neg (by decide))
theorem joined_ints (s : ByteArray) : bytesOf (joinedB s) = ints (rows 47 s.data.toList).flatten := by
 unfold bytesOf ints
 rw [joinedB_list]
theorem trayOf_row (s : ByteArray) : trayOf s = none ∨ (s.size ≤ 42 ∧ impl_read.f s = trayOf s) := by
 rcases h : trayOf s with _ | t
 ·exact Or.inl rfl
 ·have hs := trayOf_small s (by rw [h]; exact fun e => nomatch e)
  refine Or.inr ⟨hs, ?_⟩
  rw [← h]
  have hne : 0 < (rowsL s).length := by
   rw [rowsL_len]
   exact List.length_pos_iff.2 (rows_ne 47 _)
  have hw := rowsL_tw s hne
  unfold trayOf trayRows at h ⊢
  split at h
  ·rename_i hk
   rw [if_pos hk]
   unfold impl_read.f
   rw [if_pos (by omega), joined_ints, rowsL_len, ← hw]
   rfl
  ·cases h
theorem trayOf_some {s : ByteArray} {t : Int × Int × List Int} (ht : trayOf s = some t) : ∃ w h : Nat, t = ((w : Int), (h : Int), ints (rows 47 s.data.toList).flatten) ∧ 1 ≤ w ∧ w ≤ 7 ∧ 1 ≤ h ∧ h ≤ 7 ∧ w * h ≤ 36 ∧ (ints (rows 47 s.data.toList).flatten).length = w * h := by
 unfold trayOf trayRows at ht
 split at ht
 ·rename_i hk
  have h1 := evenRows_flat _ _ hk.2.1
  have h2 := List.length_pos_iff.2 (rows_ne 47 s.data.toList)
  have h3 := hk.1
  refine ⟨_, _, (Option.some.inj ht).symm, h3.1, h3.2.1, by omega, h3.2.2.1, h3.2.2.2, ?_⟩
  rw [ints_length, h1]
 ·cases ht
theorem form_len {s : ByteArray} {t : Int × Int × List Int} (ht : trayOf s = some t) : t.2.2.length ≤ 36 := by
 obtain ⟨w, h, rfl, h1, h2, h3, h4, h5, h6⟩ := trayOf_some ht
 show (ints _).length ≤ 36
 omega
theorem tray_parts {s : ByteArray} {t : Int × Int × List Int} (ht : trayOf s = some t) : ∃ (w h : Nat) (cs : List Int), t = ((w : Int), (h : Int), cs) ∧ 1 ≤ w ∧ w ≤ 7 ∧ 1 ≤ h ∧ h ≤ 7 ∧ w * h ≤ 36 ∧ cs.length = w * h := by
 obtain ⟨w, h, e, h1, h2, h3, h4, h5, h6⟩ := trayOf_some ht
 exact ⟨w, h, _, e, h1, h2, h3, h4, h5, h6⟩
theorem tray_read {s : ByteArray} {t : Int × Int × List Int} (ht : trayOf s = some t) : impl_read.f s = some t := by
 rw [← ht]
 exact ((trayOf_row s).resolve_left (by rw [ht]; exact fun e => nomatch e)).2
end Go.Proofs.YtggdmblknkcigaaDoor.Q
end
section
namespace Go.Proofs.YtggdmblknkcigaaDoor.Q
set_option linter.unusedSectionVars false
open Go.RowKit Go.Shelf Go.Proofs.YtggdmblknkcigaaDoorW.PrintWords Go.Proofs.YtggdmblknkcigaaDoorW.PrintLast Go.Proofs.YtggdmblknkcigaaDoorW.PrintMore
def numL (n : Nat) : List UInt8 := if n < 10 then [UInt8.ofNat (48 + n)] else [UInt8.ofNat (48 + n / 10), UInt8.ofNat (48 + n % 10)]
def okI (e : Lib.NumEnd Int) (n : Int) : Bool := match e with
 | .ok v => v == n
 | _ => false
theorem atoi_okI : ∀ n : Fin 37, okI (Lib.atoiAll (numL n.val)) (n.val : Int) = true := by decide +kernel
theorem atoi_num {n : Nat} (h : n < 37) : Lib.atoiAll (numL n) = .ok (n : Int) := by
 have h1 := atoi_okI ⟨n, h⟩
 unfold okI at h1
 split at h1
 ·rename_i v e
  rw [e, beq_iff_eq.1 h1]
 ·cases h1
theorem itoa_num {n : Nat} (h : n < 37) : Lib.itoa (n : Int) = numL n := by
 unfold Lib.itoa numL
 rw [if_neg (by omega), Int.toNat_natCast]
 split
 ·rename_i h1
  rw [Lib.decDigits_one h1]
 ·rename_i h1
  rw [Lib.decDigits_two h1 (by omega)]
def numI (l : List UInt8) : Option Nat := (List.range 37).find? fun n => decide (numL n = l)
theorem numI_some {l : List UInt8} {n : Nat} (h : numI l = some n) : n < 37 ∧ numL n = l := by
 have h1 := List.find?_some h
 exact ⟨List.mem_range.1 (List.mem_of_find?_eq_some h), of_decide_eq_true h1⟩
theorem numI_none {l : List UInt8} (h : numI l = none) : ∀ n, n < 37 → numL n ≠ l := fun n hn e => by
 have h1 := List.find?_eq_none.1 h n (List.mem_range.2 hn)
 exact h1 (decide_eq_true e)
theorem number_val (s : ByteArray) (hs : s.size ≤ 1048576) : impl_number.f s 36 = some (match numI s.data.toList with | some n => ((n : Int), true) | none => (0, false)) := by
 have htl : s.toList = s.data.toList := by
  obtain ⟨⟨l⟩⟩ := s
  exact ByteArray.toList_mk l
 have hit : ∀ v : Int, (itoaB v).toList = Lib.itoa v := fun v => by rw [itoaB, ByteArray.toList_mk]
 unfold impl_number.f
 rw [if_pos hs]
 cases hn : numI s.data.toList with
 | some n =>
  obtain ⟨h1, h2⟩ := numI_some hn
  rw [← h2, atoi_num h1]
  show (if -9223372036854775808 ≤ (n : Int) ∧ (n : Int) ≤ 9223372036854775807 then _ else _) = _
  rw [if_pos (by omega), hit, htl, itoa_num h1, if_pos h2, within_eq, Option.bind_some, decide_eq_true (by omega), if_pos rfl]
 | none =>
  have h1 := numI_none hn
  rcases ha : Lib.atoiAll s.data.toList with v | _ | _
  rotate_left
  ·rfl
  ·rfl
  ·show (if -9223372036854775808 ≤ v ∧ v ≤ 9223372036854775807 then _ else _) = _
   rw [if_pos (Lib.atoiAll_bounds ha), hit, htl]
   by_cases e : Lib.itoa v = s.data.toList
   ·rw [if_pos e, within_eq, Option.bind_some]
    by_cases hv : 0 ≤ v ∧ v ≤ 36
    ·obtain ⟨n, rfl⟩ := Int.eq_ofNat_of_zero_le hv.1
     exact absurd ((itoa_num (by omega)).symm.trans e) (h1 n (by omega))
    ·rw [decide_eq_false hv]
     rfl
   ·rw [if_neg e]
end Go.Proofs.YtggdmblknkcigaaDoor.Q
end
section
namespace Go.Proofs.YtggdmblknkcigaaDoor.Q
set_option linter.unusedSectionVars false
open Go.RowKit Go.Shelf Go.Proofs.YtggdmblknkcigaaDoorW.PrintWords Go.Proofs.YtggdmblknkcigaaDoorW.PrintLast Go.Proofs.YtggdmblknkcigaaDoorW.PrintMore
def val (l : List UInt8) (acc : Nat) : Int := match l with
 | [] => (acc : Int)
 | b :: l => if 48 ≤ b.toNat ∧ b.toNat ≤ 57 then val l (10 * acc + (b.toNat - 48)) else -1
def rdV (l : List UInt8) : Int := if (1 ≤ l.length ∧ l.length ≤ 6) ∧ ¬ (l.head? = some 48 ∧ 1 < l.length) then val l 0 else -1
theorem val_ge : ∀ (l : List UInt8) (acc : Nat), val l acc = -1 ∨ (acc : Int) ≤ val l acc
 | [], acc => .inr (Int.le_refl _)
 | b :: l, acc => by
  unfold val
  split
  ·rcases val_ge l (10 * acc + (b.toNat - 48)) with h | h
   ·exact .inl h
   ·exact .inr (by omega)
  ·exact .inl rfl
theorem rdV_num : ∀ n : Fin 37, rdV (numL n.val) = (n.val : Int) := by decide +kernel
theorem ofNat_back (b : UInt8) (k : Nat) (h : k = b.toNat) : UInt8.ofNat k = b := by
 rw [h]
 exact UInt8.ofNat_toNat
theorem rdV_back {l : List UInt8} (h0 : 0 ≤ rdV l) (h1 : rdV l ≤ 36) : numL (rdV l).toNat = l := by
 unfold rdV at h0 h1 ⊢
 split at h0
 case isFalse => omega
 rename_i hc
 rw [if_pos hc] at h1 ⊢
 match l, hc, h0, h1 with
 | [], hc, _, _ => simp at hc
 | [b], _, h0, h1 =>
  unfold val at h0 h1 ⊢
  split at h0
  case isFalse => omega
  rename_i hd
  rw [if_pos hd] at h1 ⊢
  unfold val at h1 ⊢
  have e : ((10 * 0 + (b.toNat - 48) : Nat) : Int).toNat = b.toNat - 48 := by omega
  rw [e]
  unfold numL
  rw [if_pos (by omega), ofNat_back b _ (by omega)]
 | [a, b], hc, h0, h1 =>
  unfold val at h0 h1 ⊢
  split at h0
  case isFalse => omega
  rename_i hd
  rw [if_pos hd] at h1 ⊢
  unfold val at h0 h1 ⊢
  split at h0
  case isFalse => omega
  rename_i hd2
  rw [if_pos hd2] at h1 ⊢
  unfold val at h1 ⊢
  have ha : a.toNat ≠ 48 := fun e => hc.2 ⟨by rw [List.head?_cons, show a = 48 from by rw [← ofNat_back a 48 e.symm]; rfl], by simp⟩
  have e : ((10 * (10 * 0 + (a.toNat - 48)) + (b.toNat - 48) : Nat) : Int).toNat = 10 * (a.toNat - 48) + (b.toNat - 48) := by omega
  rw [e]
  unfold numL
  rw [if_neg (by omega), ofNat_back a _ (by omega), ofNat_back b _ (by omega)]
 | a :: b :: c :: l, hc, h0, h1 =>
  exfalso
  unfold val at h0 h1
  split at h0
  case isFalse => omega
  rename_i hd
  rw [if_pos hd] at h1
  unfold val at h0 h1
  split at h0
  case isFalse => omega
  rename_i hd2
  rw [if_pos hd2] at h1
  unfold val at h0 h1
  split at h0
  case isFalse => omega
  rename_i hd3
  rw [if_pos hd3] at h1
  have ha : a.toNat ≠ 48 := fun e => hc.2 ⟨by rw [List.head?_cons, show a = 48 from by rw [← ofNat_back a 48 e.symm]; rfl], by simp⟩
  rcases val_ge l (10 * (10 * (10 * 0 + (a.toNat - 48)) + (b.toNat - 48)) + (c.toNat - 48)) with h | h <;> omega
end Go.Proofs.YtggdmblknkcigaaDoor.Q
end
section
namespace Go.Proofs.YtggdmblknkcigaaDoor.Q
set_option linter.unusedSectionVars false
open Go.RowKit Go.Proofs.YtggdmblknkcigaaDoorW.PrintWords Go.Proofs.YtggdmblknkcigaaDoorW.PrintLast Go.Proofs.YtggdmblknkcigaaDoorW.PrintMore
theorem rd_nat (L : List Int) (t : Nat) (h : t < L.length) : rd L (t : Int) = L[t] := by
 unfold rd
 rw [Int.toNat_natCast, List.getD_eq_getElem?_getD, List.getElem?_eq_getElem h]
 rfl
end Go.Proofs.YtggdmblknkcigaaDoor.Q
end
section
namespace Go.Proofs.YtggdmblknkcigaaDoor.Q
set_option linter.unusedSectionVars false
open Go.RowKit Go.Shelf Go.Proofs.YtggdmblknkcigaaDoorW.PrintWords Go.Proofs.YtggdmblknkcigaaDoorW.PrintLast Go.Proofs.YtggdmblknkcigaaDoorW.PrintMore
theorem wr1 (n : Nat) (h : n ≤ 100000) : wrap64 ((n : Int) + 1) = ((n + 1 : Nat) : Int) := by unfold wrap64; omega
theorem rd_drop {L : List Int} {u : Nat} {x : Int} {l : List Int} (h : L.drop u = x :: l) : u < L.length ∧ rd L (u : Int) = x ∧ L.drop (u + 1) = l := by
 have hu : u < L.length := by
  rcases Nat.lt_or_ge u L.length with h1 | h1
  ·exact h1
  ·rw [List.drop_eq_nil_of_le h1] at h
   cases h
 rw [List.drop_eq_getElem_cons hu] at h
 injection h with h1 h2
 refine ⟨hu, ?_, h2⟩
 unfold rd
 rw [Int.toNat_natCast, List.getD_eq_getElem?_getD, List.getElem?_eq_getElem hu]
 exact h1
end Go.Proofs.YtggdmblknkcigaaDoor.Q
end
section
namespace Go.Proofs.YtggdmblknkcigaaDoor.Q
set_option linter.unusedSectionVars false
open Go.RowKit Go.Shelf Go.Proofs.YtggdmblknkcigaaDoorW.PrintWords Go.Proofs.YtggdmblknkcigaaDoorW.PrintLast Go.Proofs.YtggdmblknkcigaaDoorW.PrintMore
def only (cs : List Int) (c x : Int) : Prop := 0 ≤ x ∧ x < (cs.length : Int) ∧ rd cs x = c ∧ ∀ y : Int, 0 ≤ y → y < (cs.length : Int) → rd cs y = c → y = x
def idxL : List Int → Int → Nat → Int
 | [], _, _ => -1
 | x :: l, c, i => if x = c then (i : Int) else idxL l c (i + 1)
theorem idxL_at : ∀ (l : List Int) (cs : List Int) (c : Int) (i : Nat), cs.drop i = l → 0 ≤ idxL l c i → (i : Int) ≤ idxL l c i ∧ idxL l c i < (cs.length : Int) ∧ rd cs (idxL l c i) = c
 | [], _, _, _, _, h => by simp [idxL] at h
 | y :: l, cs, c, i, hd, h => by
  obtain ⟨h1, h2, h3⟩ := rd_drop hd
  unfold idxL at h ⊢
  by_cases e : y = c
  ·rw [if_pos e] at h ⊢
   exact ⟨by omega, by omega, h2.trans e⟩
  ·rw [if_neg e] at h ⊢
   obtain ⟨a, b, c'⟩ := idxL_at l cs c (i + 1) h3 h
   exact ⟨by omega, b, c'⟩
theorem named_only {cs : List Int} (hk : namedOK cs) {c x : Int} (h1 : 97 ≤ c) (h2 : c ≤ 102) (x0 : 0 ≤ x) (x1 : x < (cs.length : Int)) (hx : rd cs x = c) : only cs c x := by
 refine ⟨x0, x1, hx, fun y y0 y1 hy => ?_⟩
 have hc := hk c h1 h2
 obtain ⟨n, rfl⟩ := Int.eq_ofNat_of_zero_le x0
 obtain ⟨m, rfl⟩ := Int.eq_ofNat_of_zero_le y0
 have hn : n < cs.length := by omega
 have hm : m < cs.length := by omega
 rw [rd_nat cs n hn] at hx
 rw [rd_nat cs m hm] at hy
 have key : ∀ (l : List Int) (a b : Nat) (ha : a < l.length) (hb : b < l.length), a < b → l[a] = c → l[b] = c → 2 ≤ l.count c := by
  intro l
  induction l with
  | nil => intro a b ha; simp at ha
  | cons z l ih =>
   intro a b ha hb hab ea eb
   obtain ⟨b, rfl⟩ : ∃ b', b = b' + 1 := ⟨b - 1, by omega⟩
   rw [List.getElem_cons_succ] at eb
   have hb2 : b < l.length := by simpa using hb
   cases a with
   | zero =>
    rw [List.getElem_cons_zero] at ea
    rw [ea, List.count_cons_self]
    have := List.count_pos_iff.2 (show c ∈ l from eb ▸ List.getElem_mem hb2)
    omega
   | succ a =>
    rw [List.getElem_cons_succ] at ea
    have := ih a b (by simpa using ha) hb2 (by omega) ea eb
    have h3 := List.count_le_count_cons (a := c) (b := z) (l := l)
    omega
 rcases Nat.lt_trichotomy m n with h3 | h3 | h3
 ·have := key cs m n hm hn h3 hy hx; omega
 ·rw [h3]
 ·have := key cs n m hn hm h3 hx hy; omega
end Go.Proofs.YtggdmblknkcigaaDoor.Q
end
section
namespace Go.Proofs.YtggdmblknkcigaaDoor.Q
open Go.RowKit Go.Proofs.YtggdmblknkcigaaDoorW.PrintWords Go.Proofs.YtggdmblknkcigaaDoorW.PrintLast Go.Proofs.YtggdmblknkcigaaDoorW.PrintMore
attribute [local go_sem] max2_int min2_int max_two min_two max_three min_three max_four min_four
set_option linter.unusedVariables false
set_option linter.unusedSimpArgs false
def spec_tiPlace.l0 : Nat → Int → List Int → Int → Int → Option (Int)
 | 0, _, _, _, _ => none
 | k + 1, x1, x8, x9, x10 => if x10 < x9 then (if 0 ≤ x10 then (if x10 < (x8.length : Int) then (if (rd x8 x10) = x1 then (some x10) else (spec_tiPlace.l0 k x1 x8 x9 (wrap64 (x10 + 1)))) else (none)) else (none)) else (some (-1))
def spec_tiPlace.f (k : Nat) (a0_0 : Int) (a0_1 : Int) (l0_2 : List Int) (a1 : Int) : Option (Int) := spec_tiPlace.l0 k a1 l0_2 (l0_2.length : Int) 0
set_option maxHeartbeats 8000000 in
set_option maxRecDepth 100000 in
theorem spec_tiPlace.calls (k : Nat) (a0_0 : Int) (a0_1 : Int) (A0_2 : Option Addr) (c0_2 : Nat) (l0_2 : List Int) (a1 : Int) (r : Int) (w : World) (hr0_2 : Kd.C (Kd.int .u8) w A0_2 l0_2.length l0_2) (hc0_2 : l0_2.length ≤ c0_2) (h : spec_tiPlace.f k a0_0 a0_1 l0_2 a1 = some r) :
  Calls Tryd.prog 21 #[.agg #[.int .i64 a0_0, .int .i64 a0_1, .slice A0_2 l0_2.length c0_2], .int .u8 a1] w fun e w' => e = .returned (.int .i64 r) ∧ Below w.heap.size w w' := by
 have hu42 := Tryd.underlying42
 have HR0_2 := Aside0.mk hr0_2
 have HC0_2 := Aside0.mk hc0_2
 clear hr0_2 hc0_2
 have HB := Aside0.mk (Below.refl w.heap.size w)
 have H : (spec_tiPlace.l0 k a1 l0_2 (l0_2.length : Int) 0) = some r := h
 clear h
 have H' := Aside0.mk H
 clear H
 go_enter Tryd.func21, Tryd.ntmps21
 go_wp2_with (first | ((with_reducible refine gate_dst (N := 2) rfl ?_); refine boxE (N := 2) (cs := #[.int .i64 a0_0, .int .i64 a0_1, .slice A0_2 l0_2.length c0_2]) (t := 42) ?_; intro gb101 hg w3 hbox hb; have n0_ := Aside0.mk (below_step (bel HB) hb); have n1_ := Aside0.mk (hbox); have n2_ := Aside0.mk (gsz hg (bel HB)); have n3_ := Aside0.mk (gsz hg (bel HB)); clear HB; have HB := n0_; have BK101 := n1_; have GW101 := n2_; have GE101 := n3_; clear n0_ n1_ n2_ n3_; clear hb hbox hg; have hcz4_0 : w3.cell? ⟨gb101, 0, none⟩ = some (.int .i64 a0_0) := (blk_cell BK101.out 0).trans rfl; have hcz4_1 : w3.cell? ⟨gb101, 1, none⟩ = some (.int .i64 a0_1) := (blk_cell BK101.out 1).trans rfl; have hcz4_2 : w3.cell? ⟨gb101, 2, none⟩ = some (.slice A0_2 l0_2.length c0_2) := (blk_cell BK101.out 2).trans rfl; have hfz4_0 := blk_frozen BK101.out 0; have hfz4_1 := blk_frozen BK101.out 1; have hfz4_2 := blk_frozen BK101.out 2))
 go_loopg [10] k (fun kq v10 w' => ∃ (x10_1 : Int), v10 = .int .i64 x10_1 ∧ Aside0 (spec_tiPlace.l0 kq a1 l0_2 (l0_2.length : Int) x10_1 = some r) ∧ Aside0 (kq ≤ k) ∧ Aside0 (w'.heap[gb101]? = some (.cells #[.int .i64 a0_0, .int .i64 a0_1, (.slice A0_2 l0_2.length c0_2)] 42 (0, 0))) ∧ Aside0 (Below w.heap.size w w'))
 case atStart => exact ⟨(0), (by first | rfl | (simp; done) | (simp [*]; done)), H', ⟨Nat.le_refl _⟩, ⟨blc⟩, ⟨bel HB⟩⟩
 case round =>
  clear H'
  try clear c2
  try clear p2
  try clear hcz4_0
  try clear hcz4_1
  try clear hcz4_2
  try clear hfz4_0
  try clear hfz4_1
  try clear hfz4_2
  obtain ⟨x10_1, rfl, HA, HK1, BK101, HB⟩ := hrel
  cases gk with
  | zero => exact absurd HA.out (by simp [spec_tiPlace.l0])
  | succ k1 =>
   have H := HA.out
   clear HA
   simp only [spec_tiPlace.l0] at H
   by_cases c5 : x10_1 < (l0_2.length : Int)
   ·rw [if_pos c5] at H
    have c5b0 : decide (x10_1 < (l0_2.length : Int)) = true := decide_eq_true c5
    clear c5
    by_cases c6 : 0 ≤ x10_1
    ·rw [if_pos c6] at H
     have c6b0 : decide (0 ≤ x10_1) = true := decide_eq_true c6
     clear c6
     by_cases c7 : x10_1 < (l0_2.length : Int)
     ·rw [if_pos c7] at H
      have c7b0 : decide (x10_1 < (l0_2.length : Int)) = true := decide_eq_true c7
      clear c7
      by_cases c8 : (rd l0_2 x10_1) = a1
      ·rw [if_pos c8] at H
       have c8b0 : ((rd l0_2 x10_1) == a1) = true := beq_iff_eq.mpr c8
       have c8b1 : ((rd l0_2 x10_1) != a1) = false := bne_eq_false_iff_eq.mpr c8
       clear c8
       obtain rfl := Option.some.inj H
       have p102 : 0 ≤ (x10_1 : Int) := of_decide_eq_true (by first | (with_reducible assumption) | assumption)
       have q102 : x10_1 < (l0_2.length : Int) := of_decide_eq_true (by first | (with_reducible assumption) | assumption)
       obtain ⟨ad102, e102, hx102_0⟩ := Kd.at_int HR0_2.out x10_1 p102 q102
       cases e102
       (try replace hx102_0 := (HB.out.cell (World.block_lt_of_cell? w _ hx102_0)).trans hx102_0)
       replace p102 := eq_true p102
       replace q102 := eq_true q102
       go_wp2
       go_ret
       exact ⟨by first | rfl | (simp [errW_none, errW_some] <;> rfl) | (simp [*, errW_none, errW_some] <;> rfl), bel HB⟩
      ·rw [if_neg c8] at H
       have c8b0 : ((rd l0_2 x10_1) == a1) = false := beq_eq_false_iff_ne.mpr c8
       have c8b1 : ((rd l0_2 x10_1) != a1) = true := bne_iff_ne.mpr c8
       have H' := Aside0.mk H
       clear H
       have p102 : 0 ≤ (x10_1 : Int) := of_decide_eq_true (by first | (with_reducible assumption) | assumption)
       have q102 : x10_1 < (l0_2.length : Int) := of_decide_eq_true (by first | (with_reducible assumption) | assumption)
       obtain ⟨ad102, e102, hx102_0⟩ := Kd.at_int HR0_2.out x10_1 p102 q102
       cases e102
       (try replace hx102_0 := (HB.out.cell (World.block_lt_of_cell? w _ hx102_0)).trans hx102_0)
       replace p102 := eq_true p102
       replace q102 := eq_true q102
       go_wp2
       go_roundg k1
       case measure => have := HK1.out; omega
       case rel => exact ⟨(wrap64 (x10_1 + 1)), (by first | rfl | (simp; done) | (simp [*]; done)), H', ⟨by have := HK1.out; omega⟩, ⟨blc⟩, ⟨bel HB⟩⟩
     ·rw [if_neg c7] at H
      exact absurd H (by simp)
    ·rw [if_neg c6] at H
     exact absurd H (by simp)
   ·rw [if_neg c5] at H
    have c5b0 : decide (x10_1 < (l0_2.length : Int)) = false := decide_eq_false c5
    clear c5
    obtain rfl := Option.some.inj H
    go_wp2
    go_ret
    exact ⟨by first | rfl | (simp [errW_none, errW_some] <;> rfl) | (simp [*, errW_none, errW_some] <;> rfl), bel HB⟩
def slices_Index_byte_byte.l0 : Nat → List Int → Int → Int → Int → Option (Int)
 | 0, _, _, _, _ => none
 | k + 1, x0, x1, x7, x8 => if x8 < x7 then (if 0 ≤ x8 then (if x8 < (x0.length : Int) then (if x1 = (rd x0 x8) then (some x8) else (slices_Index_byte_byte.l0 k x0 x1 x7 (wrap64 (x8 + 1)))) else (none)) else (none)) else (some (-1))
def slices_Index_byte_byte.f (k : Nat) (l0 : List Int) (a1 : Int) : Option (Int) := slices_Index_byte_byte.l0 k l0 a1 (l0.length : Int) 0
set_option maxHeartbeats 8000000 in
set_option maxRecDepth 100000 in
theorem slices_Index_byte_byte.calls (k : Nat) (A0 : Option Addr) (c0 : Nat) (l0 : List Int) (a1 : Int) (r : Int) (w : World) (hr0 : Kd.C (Kd.int .u8) w A0 l0.length l0) (hc0 : l0.length ≤ c0) (h : slices_Index_byte_byte.f k l0 a1 = some r) :
  Calls Tryd.prog 35 #[.slice A0 l0.length c0, .int .u8 a1] w fun e w' => e = .returned (.int .i64 r) ∧ Drawn0 w w' := by
 have HR0 := Aside0.mk hr0
 have HC0 := Aside0.mk hc0
 clear hr0 hc0
 have H : (slices_Index_byte_byte.l0 k l0 a1 (l0.length : Int) 0) = some r := h
 clear h
 have H' := Aside0.mk H
 clear H
 go_enter Tryd.func35, Tryd.ntmps35
 go_wp2
 go_loopg [8] k (fun kq v8 w' => ∃ (x8_1 : Int), v8 = .int .i64 x8_1 ∧ Aside0 (slices_Index_byte_byte.l0 kq l0 a1 (l0.length : Int) x8_1 = some r) ∧ Aside0 (kq ≤ k) ∧ Drawn0 w w')
 case atStart => exact ⟨(0), (by first | rfl | (simp; done) | (simp [*]; done)), H', ⟨Nat.le_refl _⟩, by repeat (first | exact Drawn0.refl _ | apply Drawn0.step)⟩
 case round =>
  clear H'
  try clear p2
  obtain ⟨x8_1, rfl, HA, HK1, ⟨m1, rfl⟩⟩ := hrel
  cases gk with
  | zero => exact absurd HA.out (by simp [slices_Index_byte_byte.l0])
  | succ k1 =>
   have H := HA.out
   clear HA
   simp only [slices_Index_byte_byte.l0] at H
   by_cases c3 : x8_1 < (l0.length : Int)
   ·rw [if_pos c3] at H
    have c3b0 : decide (x8_1 < (l0.length : Int)) = true := decide_eq_true c3
    clear c3
    by_cases c4 : 0 ≤ x8_1
    ·rw [if_pos c4] at H
     have c4b0 : decide (0 ≤ x8_1) = true := decide_eq_true c4
     clear c4
     by_cases c5 : x8_1 < (l0.length : Int)
     ·rw [if_pos c5] at H
      have c5b0 : decide (x8_1 < (l0.length : Int)) = true := decide_eq_true c5
      clear c5
      by_cases c6 : a1 = (rd l0 x8_1)
      ·rw [if_pos c6] at H
       have c6b0 : (a1 == (rd l0 x8_1)) = true := beq_iff_eq.mpr c6
       have c6b1 : (a1 != (rd l0 x8_1)) = false := bne_eq_false_iff_eq.mpr c6
       clear c6
       obtain rfl := Option.some.inj H
       have p101 : 0 ≤ (x8_1 : Int) := of_decide_eq_true (by first | (with_reducible assumption) | assumption)
       have q101 : x8_1 < (l0.length : Int) := of_decide_eq_true (by first | (with_reducible assumption) | assumption)
       obtain ⟨ad101, e101, hx101_0⟩ := Kd.at_int HR0.out x8_1 p101 q101
       cases e101
       replace p101 := eq_true p101
       replace q101 := eq_true q101
       go_wp2
       go_ret
       exact ⟨by first | rfl | (simp; done) | (simp [*]; done), by repeat (first | exact Drawn0.refl _ | apply Drawn0.step)⟩
      ·rw [if_neg c6] at H
       have c6b0 : (a1 == (rd l0 x8_1)) = false := beq_eq_false_iff_ne.mpr c6
       have c6b1 : (a1 != (rd l0 x8_1)) = true := bne_iff_ne.mpr c6
       have H' := Aside0.mk H
       clear H
       have p101 : 0 ≤ (x8_1 : Int) := of_decide_eq_true (by first | (with_reducible assumption) | assumption)
       have q101 : x8_1 < (l0.length : Int) := of_decide_eq_true (by first | (with_reducible assumption) | assumption)
       obtain ⟨ad101, e101, hx101_0⟩ := Kd.at_int HR0.out x8_1 p101 q101
       cases e101
       replace p101 := eq_true p101
       replace q101 := eq_true q101
       go_wp2
       go_roundg k1
       case measure => have := HK1.out; omega
       case rel => exact ⟨(wrap64 (x8_1 + 1)), (by first | rfl | (simp; done) | (simp [*]; done)), H', ⟨by have := HK1.out; omega⟩, by repeat (first | exact Drawn0.refl _ | apply Drawn0.step)⟩
     ·rw [if_neg c5] at H
      exact absurd H (by simp)
    ·rw [if_neg c4] at H
     exact absurd H (by simp)
   ·rw [if_neg c3] at H
    have c3b0 : decide (x8_1 < (l0.length : Int)) = false := decide_eq_false c3
    clear c3
    obtain rfl := Option.some.inj H
    go_wp2
    go_ret
    exact ⟨by first | rfl | (simp; done) | (simp [*]; done), by repeat (first | exact Drawn0.refl _ | apply Drawn0.step)⟩
def impl_cellOf.j0 : Nat → ByteArray → ByteArray → Bool → Option (Int × Bool)
 | 0, _, _, _ => none
 | k + 1, x0, x1, x20 => if x20 = true then (some (0, false)) else ((impl_read.f x0).bind fun bt103 => (if 0 < (x1.size : Int) then ((slices_Index_byte_byte.f k bt103.2.2 (bt x1 0)).bind fun t108 => (some (t108, decide (t108 ≥ 0)))) else (none)))
def impl_cellOf.f (k : Nat) (a0 : ByteArray) (a1 : ByteArray) : Option (Int × Bool) := (impl_IsTray.f k a0).bind fun t101 => (if t101 = true then (if (a1.size : Int) = 1 then (if 0 < (a1.size : Int) then ((impl_isName.f (bt a1 0)).bind fun t102 => (impl_cellOf.j0 k a0 a1 (!t102))) else (none)) else (impl_cellOf.j0 k a0 a1 true)) else (impl_cellOf.j0 k a0 a1 true))
set_option maxHeartbeats 8000000 in
set_option maxRecDepth 100000 in
theorem impl_cellOf.calls (k : Nat) (a0 : ByteArray) (a1 : ByteArray) (r1 : Int) (r2 : Bool) (w : World) (hG : GoodW w) (h : impl_cellOf.f k a0 a1 = some (r1, r2)) :
  Calls Tryd.prog 23 #[.string a0, .string a1] w fun e w' => e = .returned (.tuple #[.int .i64 r1, .bool r2]) ∧ Below w.heap.size w w' := by
 have hu50 := Tryd.underlying50
 have hfd50_2 : ∀ (a0 : Int) (a1 : Int) (A2 : Option Addr) (n2 c2 : Nat) (W : World), (Instr.field 50 (.agg #[.int .i64 a0, .int .i64 a1, .slice A2 n2 c2]) 2).run Tryd.prog W = .ok (.slice A2 n2 c2) W := fun _ _ _ _ _ _ => by kernel_rfl
 have HG := Aside0.mk hG
 clear hG
 have HB := Aside0.mk (Below.refl w.heap.size w)
 have H : ((impl_IsTray.f k a0).bind fun t101 => (if t101 = true then (if (a1.size : Int) = 1 then (if 0 < (a1.size : Int) then ((impl_isName.f (bt a1 0)).bind fun t102 => (impl_cellOf.j0 k a0 a1 (!t102))) else (none)) else (impl_cellOf.j0 k a0 a1 true)) else (impl_cellOf.j0 k a0 a1 true))) = some (r1, r2) := h
 clear h
 have HC3 := Aside0.mk H
 clear H
 go_enter Tryd.func23, Tryd.ntmps23
 go_upto_region 1 with (fail)
 go_cut [20] (fun v20 wc => ∃ (kq : Nat) (x20_2 : Bool), v20 = .bool x20_2 ∧ Aside0 (impl_cellOf.j0 kq a0 a1 x20_2 = some (r1, r2)) ∧ Aside0 (kq ≤ k) ∧ Aside0 (Below w.heap.size w wc))
 case first =>
  have H := HC3.out
  clear HC3
  replace H := Option.bind_eq_some_iff.mp H
  obtain ⟨t101, A40, H⟩ := H
  replace H : (if t101 = true then (if (a1.size : Int) = 1 then (if 0 < (a1.size : Int) then ((impl_isName.f (bt a1 0)).bind fun t102 => (impl_cellOf.j0 k a0 a1 (!t102))) else (none)) else (impl_cellOf.j0 k a0 a1 true)) else (impl_cellOf.j0 k a0 a1 true)) = some (r1, r2) := H
  have A4 := Aside0.mk A40
  clear A40
  by_cases c5 : t101 = true
  ·subst c5
   have H1 : (if (a1.size : Int) = 1 then (if 0 < (a1.size : Int) then ((impl_isName.f (bt a1 0)).bind fun t102 => (impl_cellOf.j0 k a0 a1 (!t102))) else (none)) else (impl_cellOf.j0 k a0 a1 true)) = some (r1, r2) := by rw [if_pos rfl] at H; exact H
   clear H
   have H := H1
   clear H1
   by_cases c6 : (a1.size : Int) = 1
   ·rw [if_pos c6] at H
    have c6b0 : ((a1.size : Int) == 1) = true := beq_iff_eq.mpr c6
    have c6b1 : ((a1.size : Int) != 1) = false := bne_eq_false_iff_eq.mpr c6
    clear c6
    (first | rw [c6b0] | (simp only [i64_w, i32_w]; rw [c6b0]) | skip)
    by_cases c7 : 0 < (a1.size : Int)
    ·rw [if_pos c7] at H
     have c7b0 : decide (0 < (a1.size : Int)) = true := decide_eq_true c7
     have c7b1 : decide (0 < a1.size) = true := decide_eq_true (by omega)
     clear c7
     replace H := Option.bind_eq_some_iff.mp H
     obtain ⟨t102, A90, H⟩ := H
     replace H : (impl_cellOf.j0 k a0 a1 (!t102)) = some (r1, r2) := H
     have A9 := Aside0.mk A90
     clear A90
     have H' := Aside0.mk H
     clear H
     go_wp2_with (first | ((with_reducible refine gate_callee (f := 33) rfl ?_); refine gcall (some 8) Tryd.func33 #[.string a0] rfl ?_; (with_reducible refine (impl_IsTray.calls k a0 true _ ?side1 A4.out).mono ?_); (case side1 => (refine GoodW.below HG.out ?_); exact bel HB); rintro e w10 ⟨rfl, hb⟩; refine ⟨_, rfl, ?_⟩; have n0_ := Aside0.mk (below_step (bel HB) hb); clear HB; have HB := n0_; clear n0_; (try clear hb); (try clear hb2); (try clear hk); (try clear hi); have p8 : 0 ≤ (0 : Int) := (by omega); have q8 : 0 < a1.size := (by have : (0 : Int) < (a1.size : Int) := of_decide_eq_true (by first | (with_reducible assumption) | assumption); omega); have hx8 : ∀ h : 0 < a1.size, ((a1[0]'h).toNat : Int) = bt a1 0 := bt_at a1 0; clear p8; have qi8 : (0 < (a1.size : Int)) = True := eq_true (of_decide_eq_true (by first | (with_reducible assumption) | assumption)); replace q8 := eq_true q8) | (go_at_call 34; (with_reducible refine (impl_isName.calls (bt a1 0) t102 _ A9.out).mono ?_); rintro e w' ⟨rfl, ⟨nd, rfl⟩⟩))
     go_meet
     case rel => exact ⟨_, (!t102), (by first | rfl | (simp; done) | (simp [*]; done)), H', ⟨by first | omega | exact Nat.le_refl _⟩, ⟨bel HB⟩⟩
    ·rw [if_neg c7] at H
     exact absurd H (by simp)
   ·rw [if_neg c6] at H
    have c6b0 : ((a1.size : Int) == 1) = false := beq_eq_false_iff_ne.mpr c6
    have c6b1 : ((a1.size : Int) != 1) = true := bne_iff_ne.mpr c6
    (first | rw [c6b0] | (simp only [i64_w, i32_w]; rw [c6b0]) | skip)
    have H' := Aside0.mk H
    clear H
    go_wp2_with (first | ((with_reducible refine gate_callee (f := 33) rfl ?_); refine gcall (some 8) Tryd.func33 #[.string a0] rfl ?_; (with_reducible refine (impl_IsTray.calls k a0 true _ ?side1 A4.out).mono ?_); (case side1 => (refine GoodW.below HG.out ?_); exact bel HB); rintro e w11 ⟨rfl, hb⟩; refine ⟨_, rfl, ?_⟩; have n0_ := Aside0.mk (below_step (bel HB) hb); clear HB; have HB := n0_; clear n0_; (try clear hb); (try clear hb2); (try clear hk); (try clear hi)))
    go_meet
    case rel => exact ⟨_, (true), (by first | rfl | (simp; done) | (simp [*]; done)), H', ⟨by first | omega | exact Nat.le_refl _⟩, ⟨bel HB⟩⟩
  ·replace c5 := Bool.eq_false_iff.mpr c5
   subst c5
   have H1 : (impl_cellOf.j0 k a0 a1 true) = some (r1, r2) := by rw [if_neg (show ¬ (false = true) by decide)] at H; exact H
   clear H
   have H := H1
   clear H1
   have H' := Aside0.mk H
   clear H
   go_wp2_with (first | ((with_reducible refine gate_callee (f := 33) rfl ?_); refine gcall (some 8) Tryd.func33 #[.string a0] rfl ?_; (with_reducible refine (impl_IsTray.calls k a0 false _ ?side1 A4.out).mono ?_); (case side1 => (refine GoodW.below HG.out ?_); exact bel HB); rintro e w12 ⟨rfl, hb⟩; refine ⟨_, rfl, ?_⟩; have n0_ := Aside0.mk (below_step (bel HB) hb); clear HB; have HB := n0_; clear n0_; (try clear hb); (try clear hb2); (try clear hk); (try clear hi)))
   go_meet
   case rel => exact ⟨_, (true), (by first | rfl | (simp; done) | (simp [*]; done)), H', ⟨by first | omega | exact Nat.le_refl _⟩, ⟨bel HB⟩⟩
 case rest =>
  clear HC3
  try clear c2
  try clear p2
  try clear c3
  try clear c5
  try clear c6
  try clear c6b0
  try clear c6b0y
  try clear c6b1
  try clear c7
  try clear c7b0
  try clear c7b0y
  try clear c7b1
  try clear p8
  try clear q8
  try clear hx8
  try clear qi8
  try clear p8
  try clear q8
  obtain ⟨kq, x20_2, rfl, HA, HJ2, HB⟩ := hcut
  cases kq with
  | zero => exact absurd HA.out (by simp [impl_cellOf.j0])
  | succ kj2 =>
   have H := HA.out
   clear HA
   simp only [impl_cellOf.j0] at H
   by_cases c13 : x20_2 = true
   ·subst c13
    have H1 : (some (0, false)) = some (r1, r2) := by rw [if_pos rfl] at H; exact H
    clear H
    have H := H1
    clear H1
    simp only [Option.some.injEq, Prod.mk.injEq] at H
    obtain ⟨rfl, rfl⟩ := H
    go_wp2
    go_ret2
    exact ⟨by first | rfl | (simp [errW_none, errW_some] <;> rfl) | (simp [*, errW_none, errW_some] <;> rfl), bel HB⟩
   ·replace c13 := Bool.eq_false_iff.mpr c13
    subst c13
    have H1 : ((impl_read.f a0).bind fun bt103 => (if 0 < (a1.size : Int) then ((slices_Index_byte_byte.f kj2 bt103.2.2 (bt a1 0)).bind fun t108 => (some (t108, decide (t108 ≥ 0)))) else (none))) = some (r1, r2) := by rw [if_neg (show ¬ (false = true) by decide)] at H; exact H
    clear H
    have H := H1
    clear H1
    replace H := Option.bind_eq_some_iff.mp H
    obtain ⟨⟨t103, t104, t105⟩, A140, H⟩ := H
    replace H : (if 0 < (a1.size : Int) then ((slices_Index_byte_byte.f kj2 t105 (bt a1 0)).bind fun t108 => (some (t108, decide (t108 ≥ 0)))) else (none)) = some (r1, r2) := H
    have A14 := Aside0.mk A140
    clear A140
    by_cases c15 : 0 < (a1.size : Int)
    ·rw [if_pos c15] at H
     have c15b0 : decide (0 < (a1.size : Int)) = true := decide_eq_true c15
     have c15b1 : decide (0 < a1.size) = true := decide_eq_true (by omega)
     clear c15
     replace H := Option.bind_eq_some_iff.mp H
     obtain ⟨t108, A170, H⟩ := H
     replace H : (some (t108, decide (t108 ≥ 0))) = some (r1, r2) := H
     have A17 := Aside0.mk A170
     clear A170
     simp only [Option.some.injEq, Prod.mk.injEq] at H
     obtain ⟨rfl, rfl⟩ := H
     try go_wp2
     have n0_ := Aside0.mk (below_drew1 HB.out)
     clear HB
     have HB := n0_
     clear n0_
     have p16 : 0 ≤ (0 : Int) := (by omega)
     have q16 : 0 < a1.size := (by have : (0 : Int) < (a1.size : Int) := of_decide_eq_true (by first | (with_reducible assumption) | assumption); omega)
     have hx16 : ∀ h : 0 < a1.size, ((a1[0]'h).toNat : Int) = bt a1 0 := bt_at a1 0
     clear p16
     have qi16 : (0 < (a1.size : Int)) = True := eq_true (of_decide_eq_true (by first | (with_reducible assumption) | assumption))
     replace q16 := eq_true q16
     refine start_ (n := 7) (S := fun w' => True) (ds := []) #[false, false, false, false, false, false, false] (by kernel_rfl) rfl rfl trivial (fun hHeld => ?_)
     generalize wc.drew = w18 at HB hHeld ⊢
     refine pure_ (i := 0) (N := some 21) (v := ?_) (a' := ?_) #[true, false, false, false, false, false, false] rfl rfl (by kernel_rfl) (fun _ _ _ h => h) (Or.inl ⟨by rfl, ?_⟩) ?_ ?_
     rotate_left
     ·intro w'
      go_simp
      with_reducible rfl
     rotate_left
     ·simp only [Act.put, List.setIfInBounds_toArray, List.set_cons_zero, List.set_cons_succ, i64_w, i32_w]
      rfl
     refine pure_ (i := 3) (N := some 24) (v := ?_) (a' := ?_) #[true, false, false, true, false, false, false] rfl rfl (by kernel_rfl) (fun _ _ _ h => h) (Or.inl ⟨by rfl, ?_⟩) ?_ ?_
     rotate_left
     ·intro w'
      go_simp
      with_reducible rfl
     rotate_left
     ·simp only [Act.put, List.setIfInBounds_toArray, List.set_cons_zero, List.set_cons_succ, i64_w, i32_w]
      rfl
     refine take_ (i := 4) (N := some 25) (v := ?_) (a' := ?_) #[true, false, false, true, true, false, false] rfl rfl (by kernel_rfl) (fun _ _ _ h => h) (Or.inl ⟨by rfl, ?_⟩) hHeld ?_ ?_
     rotate_left
     ·intro w' _
      go_simp
      with_reducible rfl
     rotate_left
     ·simp only [Act.put, List.setIfInBounds_toArray, List.set_cons_zero, List.set_cons_succ, i64_w, i32_w]
      rfl
     refine one_ (i := 1) (N := some 22) #[true, true, false, true, true, false, false] rfl rfl (by kernel_rfl) (by decide) (fun K hK => ?_)
     refine goes_ Tryd.func25 (by kernel_rfl) rfl #[.string a0] (by rfl) rfl rfl (by (try simp only [List.map_toArray, List.map_cons, List.map_nil]); first | done | rfl | (simp only [List.length_drop, List.length_take]; rfl)) ?_
     with_reducible refine (impl_read.calls a0 t103 t104 t105 _ ?side1 A14.out).mono ?_
     (case side1 => (refine GoodW.below HG.out ?_); exact bel HB)
     rintro e w19 ⟨v106, rfl, ho0, hb⟩
     refine ⟨_, rfl, ?_⟩
     have n0_ := Aside0.mk (Kd.V_lower (Kd.V_mono (ok' := fun k_ => True) ho0 (fun k_ hk_ => trivial)) (below_size (bel HB)))
     have n1_ := Aside0.mk (below_step (bel HB) hb)
     clear HB
     have HO107 := n0_
     have HB := n1_
     clear n0_ n1_
     (try clear hb)
     (try clear hb2)
     (try clear hk)
     (try clear hi)
     (try clear ho0)
     obtain ⟨Ao20, co20, eo20⟩ := Kd.V_slice HO107.out
     (first | subst eo20 | (injection eo20 with f1_ f2_ f3_; have f4_ := f1_.symm; have f5_ := f3_.symm; clear f1_ f2_ f3_; subst f4_; subst f5_))
     refine hK.out _ _ trivial (fun hHeld => ?_)
     clear hK K
     refine norm_ (a' := ?_) ?_ ?_
     rotate_left
     ·show Act.put _ (some 22) _ = _
      simp only [Act.put, List.setIfInBounds_toArray, List.set_cons_zero, List.set_cons_succ, i64_w, i32_w]
      rfl
     refine pure_ (i := 2) (N := some 23) (v := ?_) (a' := ?_) #[true, true, true, true, true, false, false] rfl rfl (by kernel_rfl) (fun _ _ _ h => h) (Or.inl ⟨by rfl, ?_⟩) ?_ ?_
     rotate_left
     ·intro w'
      go_simp
      with_reducible rfl
     rotate_left
     ·simp only [Act.put, List.setIfInBounds_toArray, List.set_cons_zero, List.set_cons_succ, i64_w, i32_w]
      rfl
     refine one_ (i := 5) (N := some 26) #[true, true, true, true, true, true, false] rfl rfl (by kernel_rfl) (by decide) (fun K hK => ?_)
     refine goes_ Tryd.func35 (by kernel_rfl) rfl #[.slice Ao20 t105.length co20, .int .u8 (bt a1 0)] (by rfl) rfl rfl (by (try simp only [List.map_toArray, List.map_cons, List.map_nil]); first | done | rfl | (simp only [List.length_drop, List.length_take]; rfl)) ?_
     with_reducible refine (slices_Index_byte_byte.calls kj2 _ _ t105 (bt a1 0) t108 _ ?side1 ?side2 A17.out).mono ?_
     (case side1 => repeat (first | exact (Kd.V_reads' HO107.out).2.2 | (with_reducible refine Kd.C_alloc ?_ _) | (with_reducible refine Kd.C_drewN ?_ _) | (with_reducible refine Kd.C_drew ?_)))
     (case side2 => exact (Kd.V_reads' HO107.out).2.1)
     rintro e w' ⟨rfl, ⟨nd, rfl⟩⟩
     refine ⟨_, rfl, ?_⟩
     refine hK.out _ _ trivial (fun hHeld => ?_)
     clear hK K
     refine norm_ (a' := ?_) ?_ ?_
     rotate_left
     ·show Act.put _ (some 26) _ = _
      simp only [Act.put, List.setIfInBounds_toArray, List.set_cons_zero, List.set_cons_succ, i64_w, i32_w]
      rfl
     refine pure_ (i := 6) (N := some 6) (v := ?_) (a' := ?_) #[true, true, true, true, true, true, true] rfl rfl (by kernel_rfl) (fun _ _ _ h => h) (Or.inl ⟨by rfl, ?_⟩) ?_ ?_
     rotate_left
     ·intro w'
      go_simp
      with_reducible rfl
     rotate_left
     ·simp only [Act.put, List.setIfInBounds_toArray, List.set_cons_zero, List.set_cons_succ, i64_w, i32_w]
      rfl
     refine done_ (by kernel_rfl) ?_
     try go_wp2
     go_ret2
     exact ⟨by first | rfl | (simp [errW_none, errW_some] <;> rfl) | (simp [*, errW_none, errW_some] <;> rfl), bel HB⟩
    ·rw [if_neg c15] at H
     exact absurd H (by simp)
end Go.Proofs.YtggdmblknkcigaaDoor.Q
end
section
namespace Go.Proofs.YtggdmblknkcigaaDoor.Q
open Go.RowKit Go.Shelf Go.Proofs.YtggdmblknkcigaaDoorW.PrintWords Go.Proofs.YtggdmblknkcigaaDoorW.PrintLast Go.Proofs.YtggdmblknkcigaaDoorW.PrintMore
set_option linter.unusedSectionVars false
theorem tiPlace_l0 (cs : List Int) (c : Int) (hl : cs.length ≤ 1000) : ∀ (l : List Int) (i : Nat), cs.drop i = l → i ≤ cs.length → Ev (fun k => spec_tiPlace.l0 k c cs (cs.length : Int) (i : Int)) (idxL l c i)
 | [], i, hd, hi => by
  have h1 : i = cs.length := by
   have := congrArg List.length hd
   simp at this
   omega
  subst h1
  refine Ev.step (Ev.const rfl) fun k => ?_
  rw [spec_tiPlace.l0, if_neg (by omega)]
  rfl
 | x :: l, i, hd, _ => by
  obtain ⟨h1, h2, h3⟩ := rd_drop hd
  have ih := tiPlace_l0 cs c hl l (i + 1) h3 h1
  rw [← wr1 i (by omega)] at ih
  unfold idxL
  by_cases e : x = c
  ·rw [if_pos e]
   refine Ev.step (Ev.const rfl) fun k => ?_
   rw [spec_tiPlace.l0, if_pos (by omega), if_pos (by omega), if_pos (by omega), h2, if_pos e]
  ·rw [if_neg e]
   refine Ev.step ih fun k => ?_
   rw [spec_tiPlace.l0, if_pos (by omega), if_pos (by omega), if_pos (by omega), h2, if_neg e]
theorem tiPlace_ev (cs : List Int) (c w h : Int) (hl : cs.length ≤ 1000) : Ev (fun k => spec_tiPlace.f k w h cs c) (idxL cs c 0) := tiPlace_l0 cs c hl cs 0 rfl (Nat.zero_le _)
theorem index_l0 (cs : List Int) (c : Int) (hl : cs.length ≤ 1000) : ∀ (l : List Int) (i : Nat), cs.drop i = l → i ≤ cs.length → Ev (fun k => slices_Index_byte_byte.l0 k cs c (cs.length : Int) (i : Int)) (idxL l c i)
 | [], i, hd, hi => by
  have h1 : i = cs.length := by
   have := congrArg List.length hd
   simp at this
   omega
  subst h1
  refine Ev.step (Ev.const rfl) fun k => ?_
  rw [slices_Index_byte_byte.l0, if_neg (by omega)]
  rfl
 | x :: l, i, hd, _ => by
  obtain ⟨h1, h2, h3⟩ := rd_drop hd
  have ih := index_l0 cs c hl l (i + 1) h3 h1
  rw [← wr1 i (by omega)] at ih
  unfold idxL
  by_cases e : x = c
  ·rw [if_pos e]
   refine Ev.step (Ev.const rfl) fun k => ?_
   rw [slices_Index_byte_byte.l0, if_pos (by omega), if_pos (by omega), if_pos (by omega), h2, if_pos e.symm]
  ·rw [if_neg e]
   refine Ev.step ih fun k => ?_
   rw [slices_Index_byte_byte.l0, if_pos (by omega), if_pos (by omega), if_pos (by omega), h2, if_neg fun e2 => e e2.symm]
theorem index_ev (cs : List Int) (c : Int) (hl : cs.length ≤ 1000) : Ev (fun k => slices_Index_byte_byte.f k cs c) (idxL cs c 0) := index_l0 cs c hl cs 0 rfl (Nat.zero_le _)
def nameOK (s : ByteArray) : Bool := decide ((s.size : Int) = 1 ∧ 97 ≤ bt s 0 ∧ bt s 0 ≤ 102)
theorem isName_eq (a : Int) : impl_isName.f a = some (decide (97 ≤ a ∧ a ≤ 102)) := by
 unfold impl_isName.f
 by_cases h : a ≥ 97
 ·rw [if_pos h]
  congr 1
  exact decide_eq_decide.2 (by omega)
 ·rw [if_neg h, decide_eq_false (by omega)]
theorem tray_named {t : ByteArray} {w h : Int} {cs : List Int} (ht : trayOf t = some (w, h, cs)) : namedOK cs := by
 unfold trayOf trayRows at ht
 split at ht
 case isFalse => cases ht
 rename_i hk
 have hc : ints (rows 47 t.data.toList).flatten = cs := congrArg (fun z => z.2.2) (Option.some.inj ht)
 rw [← hc]
 exact hk.2.2
def cellOfR (t s : ByteArray) : Int × Bool := match trayOf t with
 | none => (0, false)
 | some (_, _, cs) => if nameOK s = true then (idxL cs (bt s 0) 0, decide (idxL cs (bt s 0) 0 ≥ 0)) else (0, false)
theorem cellOf_ev (t s : ByteArray) (ht0 : t.size ≤ 1048576) : Ev (fun k => impl_cellOf.f k t s) (cellOfR t s) := by
 have hno : Ev (fun k => impl_cellOf.j0 k t s true) (0, false) := by
  refine Ev.step (Ev.const (o := some (0, false)) rfl) fun k => ?_
  rw [impl_cellOf.j0, if_pos rfl]
 refine Ev.bind (f := fun k (t101 : Bool) => (if t101 = true then (if (s.size : Int) = 1 then (if 0 < (s.size : Int) then ((impl_isName.f (bt s 0)).bind fun t102 => (impl_cellOf.j0 k t s (!t102))) else (none)) else (impl_cellOf.j0 k t s true)) else (impl_cellOf.j0 k t s true))) (isTray_ev t ht0) ?_
 unfold cellOfR
 rcases ht : trayOf t with _ | ⟨w, h, cs⟩
 ·exact Ev.congr hno fun k => if_neg (by simp)
 ·have hread := tray_read ht
  have hl := form_len ht
  show Ev _ (if nameOK s = true then _ else _)
  by_cases h1 : (s.size : Int) = 1
  ·by_cases h2 : 97 ≤ bt s 0 ∧ bt s 0 ≤ 102
   ·rw [if_pos (show nameOK s = true from decide_eq_true ⟨h1, h2⟩)]
    refine Ev.congr (Ev.step (g := fun k => impl_cellOf.j0 k t s false) (Ev.bind (f := fun _ t108 => some (t108, decide (t108 ≥ 0))) (index_ev cs (bt s 0) (by simpa using Nat.le_trans hl (by decide))) (Ev.const rfl)) fun k => ?_) fun k => ?_
    ·rw [impl_cellOf.j0, if_neg (by decide), hread, Option.bind_some, if_pos (by omega)]
    ·show (if true = true then _ else _) = _
     rw [if_pos rfl, if_pos h1, if_pos (by omega), isName_eq, Option.bind_some, decide_eq_true h2]
     rfl
   ·rw [if_neg (by unfold nameOK; simp only [decide_eq_true_eq]; exact fun h => h2 h.2)]
    refine Ev.congr hno fun k => ?_
    show (if true = true then _ else _) = _
    rw [if_pos rfl, if_pos h1, if_pos (by omega), isName_eq, Option.bind_some, decide_eq_false h2]
    rfl
  ·rw [if_neg (by unfold nameOK; simp only [decide_eq_true_eq]; exact fun h => h1 h.1)]
   refine Ev.congr hno fun k => ?_
   show (if true = true then _ else _) = _
   rw [if_pos rfl, if_neg h1]
theorem name_only {cs : List Int} (hk : namedOK cs) {s : ByteArray} (hs : nameOK s = true) (h0 : 0 ≤ idxL cs (bt s 0) 0) : only cs (bt s 0) (idxL cs (bt s 0) 0) := by
 obtain ⟨_, h1, h2⟩ := of_decide_eq_true hs
 obtain ⟨_, a, b⟩ := idxL_at cs cs (bt s 0) 0 rfl h0
 exact named_only hk h1 h2 h0 a b
end Go.Proofs.YtggdmblknkcigaaDoor.Q
end
section
namespace Go.Proofs.YtggdmblknkcigaaDoor.Q
open Go.RowKit Go.Proofs.YtggdmblknkcigaaDoorW.PrintWords Go.Proofs.YtggdmblknkcigaaDoorW.PrintLast Go.Proofs.YtggdmblknkcigaaDoorW.PrintMore
theorem wrap64_small (n : Nat) (h : n < 1000000) : wrap64 ((n : Int) + 1) = ((n + 1 : Nat) : Int) := by unfold wrap64; omega
end Go.Proofs.YtggdmblknkcigaaDoor.Q
end
section
namespace Go.Proofs.YtggdmblknkcigaaDoor.Q
open Go.RowKit Go.Proofs.YtggdmblknkcigaaDoorW.PrintWords Go.Proofs.YtggdmblknkcigaaDoorW.PrintLast Go.Proofs.YtggdmblknkcigaaDoorW.PrintMore
def PredI (g : Nat) (lb : Array Value) (p : Int → Bool) (zs : List Int) (w : World) : Prop :=
 ∀ W, Below w.heap.size w W → ∀ x ∈ zs, Calls Tryd.prog g (#[.int .i64 x] ++ lb) W fun e W' => e = .returned (.bool (p x)) ∧ Below W.heap.size W W'
set_option maxHeartbeats 4000000 in
set_option maxRecDepth 100000 in
theorem idxI (g : Nat) (lb : Array Value) (eg : ∀ args w, (callFunc g args).run Tryd.prog w = .ok (.enter g args) w) (p : Int → Bool) (A0 : Option Addr) (c0 : Nat) (zs : List Int) (w : World) (hr0 : Kd.C (Kd.int .i64) w A0 zs.length zs) (hn : zs.length ≤ 1000000) (hp : PredI g lb p zs w) :
  Calls Tryd.prog 72 #[.slice A0 zs.length c0, .func (.func g) #[] lb] w fun e w' => ∃ i : Int, e = .returned (.int .i64 i) ∧ (decide (0 ≤ i) = zs.any p) ∧ Below w.heap.size w w' := by
 have HR := Aside0.mk hr0
 have HP := Aside0.mk hp
 clear hr0 hp
 go_enter Tryd.func72, Tryd.ntmps72
 go_wp2
 go_loopg [5, 8] zs.length (fun gg _ s8 wr => ∃ kk : Nat, s8 = .int .i64 kk ∧ Aside0 (kk ≤ zs.length ∧ zs.length - kk ≤ gg ∧ ∀ j : Nat, j < kk → p (rd zs j) = false) ∧ Aside0 (Below w.heap.size w wr))
 case atStart => exact ⟨0, rfl, ⟨Nat.zero_le _, by omega, fun j hj => absurd hj (Nat.not_lt_zero _)⟩, ⟨Below.refl _ _⟩⟩
 case round =>
  obtain ⟨kk, rfl, HA, HB⟩ := hrel
  obtain ⟨hkk, hgg, hno⟩ := HA.out
  by_cases hlt : kk < zs.length
  ·have c1 : decide ((kk : Int) < (zs.length : Int)) = true := decide_eq_true (by omega)
   have p1 : (0 ≤ (kk : Int)) = True := eq_true (by omega)
   have p2 : ((kk : Int) < (zs.length : Int)) = True := eq_true (by omega)
   obtain ⟨ad, e1, hx⟩ := Kd.at_int (Kd.C_below HR.out HB.out) (kk : Int) (by omega) (by omega)
   cases e1
   rw [Int.toNat_natCast] at hx
   have hm : rd zs kk ∈ zs := by
    unfold rd
    rw [Int.toNat_natCast, List.getD_eq_getElem?_getD, List.getElem?_eq_getElem hlt]
    exact List.getElem_mem hlt
   have hcall : ∀ W, Below wr.heap.size wr W → Calls Tryd.prog g (#[.int .i64 (rd zs kk)] ++ lb) W fun e W' => e = .returned (.bool (p (rd zs kk))) ∧ Below W.heap.size W W' := fun W hW =>
    HP.out W (below_then HB.out HB.out.size hW) (rd zs kk) hm
   generalize hv : rd zs kk = y at hx hcall hm
   have HV := Aside0.mk (show rd zs kk = y ∧ y ∈ zs from ⟨hv, hm⟩)
   clear hv hm hno hgg hkk
   cases hq : p y with
   | true =>
    rw [hq] at hcall
    go_wp2_with fail
    refine (hcall _ (Below.refl _ _)).mono ?_
    rintro e w' ⟨rfl, hb⟩
    clear hcall
    go_wp2
    go_ret
    refine ⟨_, rfl, ?_, below_then HB.out HB.out.size hb⟩
    rw [decide_eq_true (by omega)]
    exact (List.any_eq_true.2 ⟨y, HV.out.2, hq⟩).symm
   | false =>
    rw [hq] at hcall
    go_wp2_with fail
    refine (hcall _ (Below.refl _ _)).mono ?_
    rintro e w' ⟨rfl, hb⟩
    clear hcall
    go_wp2
    go_roundg (zs.length - (kk + 1))
    case measure => have := HA.out.2.1; omega
    case rel =>
     refine ⟨kk + 1, by first | rfl | rw [wrap64_small kk (by omega)] | simp, ⟨by omega, by omega, fun j hj => ?_⟩, ⟨below_then HB.out HB.out.size hb⟩⟩
     by_cases e : j = kk
     ·rw [e, HV.out.1]
      exact hq
     ·exact HA.out.2.2 j (by omega)
  ·obtain rfl : kk = zs.length := by omega
   have c1 : decide ((zs.length : Int) < (zs.length : Int)) = false := decide_eq_false (by omega)
   go_wp2
   go_ret
   refine ⟨_, rfl, ?_, HB.out⟩
   rw [decide_eq_false (by omega)]
   refine (Bool.eq_false_iff.2 fun h => ?_).symm
   obtain ⟨x, hx, hpx⟩ := List.any_eq_true.1 h
   obtain ⟨j, hj, rfl⟩ := List.getElem_of_mem hx
   have h2 := hno j hj
   unfold rd at h2
   rw [Int.toNat_natCast, List.getD_eq_getElem?_getD, List.getElem?_eq_getElem hj] at h2
   exact absurd hpx (by simpa using h2)
set_option maxHeartbeats 4000000 in
set_option maxRecDepth 100000 in
theorem contI (g : Nat) (lb : Array Value) (eg : ∀ args w, (callFunc g args).run Tryd.prog w = .ok (.enter g args) w) (p : Int → Bool) (A0 : Option Addr) (c0 : Nat) (zs : List Int) (w : World) (hr0 : Kd.C (Kd.int .i64) w A0 zs.length zs) (hn : zs.length ≤ 1000000) (hp : PredI g lb p zs w) :
  Calls Tryd.prog 47 #[.slice A0 zs.length c0, .func (.func g) #[] lb] w fun e w' => e = .returned (.bool (zs.any p)) ∧ Below w.heap.size w w' := by
 have hI := idxI g lb eg p A0 c0 zs w hr0 hn hp
 clear eg hp hr0
 go_enter Tryd.func47, Tryd.ntmps47
 go_wp2_with fail
 refine hI.mono ?_
 rintro e w' ⟨i, rfl, hi, hb⟩
 clear hI
 go_wp2
 go_ret
 exact ⟨by rw [← hi]; rfl, hb⟩
end Go.Proofs.YtggdmblknkcigaaDoor.Q
end
section
namespace Go.Proofs.YtggdmblknkcigaaDoor.Q
open Go.RowKit Go.Proofs.YtggdmblknkcigaaDoorW.PrintWords Go.Proofs.YtggdmblknkcigaaDoorW.PrintLast Go.Proofs.YtggdmblknkcigaaDoorW.PrintMore
def impl_areWithin.f (l0 : List Int) (lo hi : Int) : Option Bool := if l0.length ≤ 1000000 then some (!l0.any (fun x => !decide (lo ≤ x ∧ x ≤ hi))) else none
theorem within_val (a lo hi : Int) : impl_within.f a lo hi = some (decide (lo ≤ a ∧ a ≤ hi)) := by
 unfold impl_within.f
 by_cases h : lo ≤ a
 ·rw [if_pos h]
  simp [h]
 ·rw [if_neg h]
  simp [h]
set_option maxHeartbeats 4000000 in
set_option maxRecDepth 100000 in
theorem within_pred (lo hi : Int) (Bl Bh : Nat) (zs : List Int) (w : World) (hl : Bl < w.heap.size) (hh : Bh < w.heap.size) (cl : w.cell? ⟨Bl, 0, none⟩ = some (.int .i64 lo)) (ch : w.cell? ⟨Bh, 0, none⟩ = some (.int .i64 hi)) :
  PredI 48 #[.pointer (some ⟨Bl, 0, none⟩), .pointer (some ⟨Bh, 0, none⟩)] (fun x => !decide (lo ≤ x ∧ x ≤ hi)) zs w := by
 intro W hb x _
 have c1 := (hb.cell (p := ⟨Bl, 0, none⟩) hl).trans cl
 have c2 := (hb.cell (p := ⟨Bh, 0, none⟩) hh).trans ch
 have hc := fun W => impl_within.calls x lo hi _ W (within_val x lo hi)
 show Calls _ _ _ _ fun e W' => e = .returned (.bool (!decide (lo ≤ x ∧ x ≤ hi))) ∧ _
 generalize decide (lo ≤ x ∧ x ≤ hi) = b at hc ⊢
 clear cl ch hb
 show Calls Tryd.prog 48 #[.int .i64 x, .pointer (some ⟨Bl, 0, none⟩), .pointer (some ⟨Bh, 0, none⟩)] W _
 go_enter Tryd.func48, Tryd.ntmps48
 go_wp2_with fail
 refine (hc _).mono ?_
 rintro e w' ⟨rfl, ⟨nd, rfl⟩⟩
 go_wp2
 go_ret
 exact ⟨rfl, pw_below_drewN (Below.refl _ _) _⟩
set_option maxHeartbeats 4000000 in
set_option maxRecDepth 100000 in
theorem impl_areWithin.calls (A0 : Option Addr) (c0 : Nat) (l0 : List Int) (lo hi : Int) (r : Bool) (w : World) (hr0 : Kd.C (Kd.int .i64) w A0 l0.length l0) (hc0 : l0.length ≤ c0) (h : impl_areWithin.f l0 lo hi = some r) :
  Calls Tryd.prog 36 #[.slice A0 l0.length c0, .int .i64 lo, .int .i64 hi] w fun e w' => e = .returned (.bool r) ∧ Below w.heap.size w w' := by
 unfold impl_areWithin.f at h
 split at h
 case isFalse => cases h
 rename_i hn
 obtain rfl := Option.some.inj h
 have hb0 : Below w.heap.size w ((w.alloc (.cells #[.int .i64 lo] 3)).alloc (.cells #[.int .i64 hi] 3)) := ((Below.refl _ w).alloc (Nat.le_refl _) _).alloc (by simp) _
 have h1 := Boxed.new w 3 (.int .i64 lo)
 have h2 := Boxed.new (w.alloc (.cells #[.int .i64 lo] 3)) 3 (.int .i64 hi)
 have hp := within_pred lo hi w.heap.size (w.heap.size + 1) l0 ((w.alloc (.cells #[.int .i64 lo] 3)).alloc (.cells #[.int .i64 hi] 3)) (by simp; omega) (by simp) (h1.alloc _).cell (by rw [World.size_alloc] at h2; exact h2.cell)
 have hcall := contI 48 #[.pointer (some ⟨w.heap.size, 0, none⟩), .pointer (some ⟨w.heap.size + 1, 0, none⟩)] (enters_of Tryd.func48 (by kernel_rfl) rfl) _ A0 c0 l0 _ (Kd.C_below hr0 hb0) hn hp
 clear hp h1 h2 hr0 h
 generalize l0.any (fun x => !decide (lo ≤ x ∧ x ≤ hi)) = b at hcall ⊢
 go_enter Tryd.func36, Tryd.ntmps36
 go_wp2_with fail
 refine hcall.mono ?_
 rintro e w' ⟨rfl, hb⟩
 clear hcall
 go_wp2
 go_ret
 exact ⟨rfl, below_then hb0 hb0.size hb⟩
end Go.Proofs.YtggdmblknkcigaaDoor.Q
end
section
namespace Go.Proofs.YtggdmblknkcigaaDoor.Q
open Go.RowKit Go.Proofs.YtggdmblknkcigaaDoorW.PrintWords Go.Proofs.YtggdmblknkcigaaDoorW.PrintLast Go.Proofs.YtggdmblknkcigaaDoorW.PrintMore
attribute [local go_sem] max2_int min2_int max_two min_two max_three min_three max_four min_four
set_option linter.unusedVariables false
set_option linter.unusedSimpArgs false
def impl_isNumber.f (k : Nat) (a0 : ByteArray) (l1 : List Int) : Option (Bool) := (impl_IsTray.f k a0).bind fun t101 => (if t101 = true then ((impl_read.f a0).bind fun bt102 => ((impl_areWithin.f l1 0 (wrap64 ((bt102.2.2.length : Int) - 1))).bind fun t107 => (some t107))) else (some false))
set_option maxHeartbeats 8000000 in
set_option maxRecDepth 100000 in
theorem impl_isNumber.calls (k : Nat) (a0 : ByteArray) (A1 : Option Addr) (c1 : Nat) (l1 : List Int) (r : Bool) (w : World) (hG : GoodW w) (hr1 : Kd.C (Kd.int .i64) w A1 l1.length l1) (hc1 : l1.length ≤ c1) (h : impl_isNumber.f k a0 l1 = some r) :
  Calls Tryd.prog 24 #[.string a0, .slice A1 l1.length c1] w fun e w' => e = .returned (.bool r) ∧ Below w.heap.size w w' := by
 have hu50 := Tryd.underlying50
 have hfd50_2 : ∀ (a0 : Int) (a1 : Int) (A2 : Option Addr) (n2 c2 : Nat) (W : World), (Instr.field 50 (.agg #[.int .i64 a0, .int .i64 a1, .slice A2 n2 c2]) 2).run Tryd.prog W = .ok (.slice A2 n2 c2) W := fun _ _ _ _ _ _ => by kernel_rfl
 have HR1 := Aside0.mk hr1
 have HC1 := Aside0.mk hc1
 clear hr1 hc1
 have HG := Aside0.mk hG
 clear hG
 have HB := Aside0.mk (Below.refl w.heap.size w)
 have H : ((impl_IsTray.f k a0).bind fun t101 => (if t101 = true then ((impl_read.f a0).bind fun bt102 => ((impl_areWithin.f l1 0 (wrap64 ((bt102.2.2.length : Int) - 1))).bind fun t107 => (some t107))) else (some false))) = some r := h
 clear h
 replace H := Option.bind_eq_some_iff.mp H
 obtain ⟨t101, A30, H⟩ := H
 replace H : (if t101 = true then ((impl_read.f a0).bind fun bt102 => ((impl_areWithin.f l1 0 (wrap64 ((bt102.2.2.length : Int) - 1))).bind fun t107 => (some t107))) else (some false)) = some r := H
 have A3 := Aside0.mk A30
 clear A30
 by_cases c4 : t101 = true
 ·subst c4
  have H1 : ((impl_read.f a0).bind fun bt102 => ((impl_areWithin.f l1 0 (wrap64 ((bt102.2.2.length : Int) - 1))).bind fun t107 => (some t107))) = some r := by rw [if_pos rfl] at H; exact H
  clear H
  have H := H1
  clear H1
  replace H := Option.bind_eq_some_iff.mp H
  obtain ⟨⟨t102, t103, t104⟩, A50, H⟩ := H
  replace H : ((impl_areWithin.f l1 0 (wrap64 ((t104.length : Int) - 1))).bind fun t107 => (some t107)) = some r := H
  have A5 := Aside0.mk A50
  clear A50
  replace H := Option.bind_eq_some_iff.mp H
  obtain ⟨t107, A60, H⟩ := H
  replace H : (some t107) = some r := H
  have A6 := Aside0.mk A60
  clear A60
  obtain rfl := Option.some.inj H
  go_enter Tryd.func24, Tryd.ntmps24
  go_wp2_with (first | ((with_reducible refine gate_callee (f := 33) rfl ?_); refine gcall (some 6) Tryd.func33 #[.string a0] rfl ?_; (with_reducible refine (impl_IsTray.calls k a0 true _ ?side1 A3.out).mono ?_); (case side1 => (refine GoodW.below HG.out ?_); exact bel HB); rintro e w7 ⟨rfl, hb⟩; refine ⟨_, rfl, ?_⟩; have n0_ := Aside0.mk (below_step (bel HB) hb); clear HB; have HB := n0_; clear n0_; (try clear hb); (try clear hb2); (try clear hk); (try clear hi)) | (go_at_call 25; (with_reducible refine (impl_read.calls a0 t102 t103 t104 _ ?side1 A5.out).mono ?_); (case side1 => (refine GoodW.below HG.out ?_); exact bel HB); rintro e w8 ⟨v105, rfl, ho0, hb⟩; have n0_ := Aside0.mk (Kd.V_lower (Kd.V_mono (ok' := fun k_ => True) ho0 (fun k_ hk_ => trivial)) (below_size (bel HB))); have n1_ := Aside0.mk (below_step (bel HB) hb); clear HB; have HO106 := n0_; have HB := n1_; clear n0_ n1_; (try clear hb); (try clear hb2); (try clear hk); (try clear hi); (try clear ho0); obtain ⟨Ao9, co9, eo9⟩ := Kd.V_slice HO106.out; subst eo9) | (go_at_call 36; (with_reducible refine (impl_areWithin.calls _ _ l1 0 (wrap64 ((t104.length : Int) - 1)) t107 _ ?side1 ?side2 A6.out).mono ?_); (case side1 => repeat (first | exact (Kd.C_below HR1.out HB.out) | (with_reducible refine Kd.C_alloc ?_ _) | (with_reducible refine Kd.C_drewN ?_ _) | (with_reducible refine Kd.C_drew ?_))); (case side2 => exact HC1.out); rintro e w10 ⟨rfl, hb⟩; have n0_ := Aside0.mk (Kd.V_below (by (with_reducible repeat (first | apply Kd.V_alloc | apply Kd.V_drewN | apply Kd.V_drew)); (first | exact HO106.out | exact R_any HO106.out)) hb); have n1_ := Aside0.mk (below_step (bel HB) hb); clear HO106; clear HB; have HO106 := n0_; have HB := n1_; clear n0_ n1_; (try clear hb); (try clear hb2); (try clear hk); (try clear hi)))
  go_ret
  exact ⟨by first | rfl | (simp [errW_none, errW_some] <;> rfl) | (simp [*, errW_none, errW_some] <;> rfl), bel HB⟩
 ·replace c4 := Bool.eq_false_iff.mpr c4
  subst c4
  have H1 : (some false) = some r := by rw [if_neg (show ¬ (false = true) by decide)] at H; exact H
  clear H
  have H := H1
  clear H1
  obtain rfl := Option.some.inj H
  go_enter Tryd.func24, Tryd.ntmps24
  go_wp2_with (first | ((with_reducible refine gate_callee (f := 33) rfl ?_); refine gcall (some 6) Tryd.func33 #[.string a0] rfl ?_; (with_reducible refine (impl_IsTray.calls k a0 false _ ?side1 A3.out).mono ?_); (case side1 => (refine GoodW.below HG.out ?_); exact bel HB); rintro e w11 ⟨rfl, hb⟩; refine ⟨_, rfl, ?_⟩; have n0_ := Aside0.mk (below_step (bel HB) hb); clear HB; have HB := n0_; clear n0_; (try clear hb); (try clear hb2); (try clear hk); (try clear hi)))
  go_ret
  exact ⟨by first | rfl | (simp [errW_none, errW_some] <;> rfl) | (simp [*, errW_none, errW_some] <;> rfl), bel HB⟩
end Go.Proofs.YtggdmblknkcigaaDoor.Q
end
section
namespace Go.Proofs.YtggdmblknkcigaaDoor.Q
set_option linter.unusedSectionVars false
open Go.RowKit Go.Proofs.YtggdmblknkcigaaDoorW.PrintWords Go.Proofs.YtggdmblknkcigaaDoorW.PrintLast Go.Proofs.YtggdmblknkcigaaDoorW.PrintMore
def inCells (cs : List Int) (a : Int) : Prop := 0 ≤ a ∧ a < (cs.length : Int)
instance (cs : List Int) (a : Int) : Decidable (inCells cs a) := inferInstanceAs (Decidable (_ ∧ _))
theorem inCells_eq (cs : List Int) (a : Int) : decide (0 ≤ a ∧ a ≤ (cs.length : Int) - 1) = decide (inCells cs a) := decide_eq_decide.2 (by unfold inCells; omega)
def allCells (cs : List Int) (l : List Int) : Bool := l.all fun a => decide (inCells cs a)
theorem within_all (cs : List Int) (l : List Int) (hl : l.length ≤ 1000000) : impl_areWithin.f l 0 ((cs.length : Int) - 1) = some (allCells cs l) := by
 unfold impl_areWithin.f allCells
 rw [if_pos hl]
 congr 1
 induction l with
 | nil => rfl
 | cons a l ih =>
  rw [List.any_cons, List.all_cons, Bool.not_or, ih (by simp at hl; omega), Bool.not_not, inCells_eq]
theorem isNumber_ev (s : ByteArray) (hs : s.size ≤ 1048576) (l : List Int) (hl : l.length ≤ 1000000) : Ev (fun k => impl_isNumber.f k s l) (match trayOf s with | none => false | some (_, _, cs) => allCells cs l) := by
 refine Ev.bind (f := fun _ (t101 : Bool) => (if t101 = true then ((impl_read.f s).bind fun bt102 => ((impl_areWithin.f l 0 (wrap64 ((bt102.2.2.length : Int) - 1))).bind fun t107 => (some t107))) else (some false))) (isTray_ev s hs) (Ev.const ?_)
 rcases ht : trayOf s with _ | ⟨w, h, cs⟩
 ·rfl
 ·have hread : impl_read.f s = trayOf s := ((trayOf_row s).resolve_left (by rw [ht]; exact fun e => nomatch e)).2
  have h1 : cs.length ≤ 36 := form_len (t := (w, h, cs)) ht
  have hwl : wrap64 ((cs.length : Int) - 1) = (cs.length : Int) - 1 := w64 (by omega) (by omega)
  show (if true = true then _ else _) = _
  rw [if_pos rfl, hread, ht]
  show (impl_areWithin.f l 0 (wrap64 ((cs.length : Int) - 1))).bind _ = _
  rw [hwl, within_all cs l hl]
  rfl
end Go.Proofs.YtggdmblknkcigaaDoor.Q
end
section
namespace Go.Proofs.YtggdmblknkcigaaDoor.Q
open Go.RowKit Go.Proofs.YtggdmblknkcigaaDoorW.PrintWords Go.Proofs.YtggdmblknkcigaaDoorW.PrintLast Go.Proofs.YtggdmblknkcigaaDoorW.PrintMore
attribute [local go_sem] max2_int min2_int max_two min_two max_three min_three max_four min_four
set_option linter.unusedVariables false
set_option linter.unusedSimpArgs false
def spec_l1In.f (a0 : Int) (a1 : Int) (a2 : Int) : Option (Bool) := if a0 ≥ a1 then (some (decide (a0 ≤ a2))) else (some false)
set_option maxHeartbeats 8000000 in
set_option maxRecDepth 100000 in
theorem spec_l1In.calls (a0 : Int) (a1 : Int) (a2 : Int) (r : Bool) (w : World) (h : spec_l1In.f a0 a1 a2 = some r) :
  Calls Tryd.prog 22 #[.int .i64 a0, .int .i64 a1, .int .i64 a2] w fun e w' => e = .returned (.bool r) ∧ Drawn0 w w' := by
 have H : (if a0 ≥ a1 then (some (decide (a0 ≤ a2))) else (some false)) = some r := h
 clear h
 by_cases c4 : a0 ≥ a1
 ·rw [if_pos c4] at H
  have c4b0 : decide (a1 ≤ a0) = true := decide_eq_true c4
  clear c4
  obtain rfl := Option.some.inj H
  go_enter Tryd.func22, Tryd.ntmps22
  go_wp2
  go_ret
  exact ⟨by first | rfl | (simp; done) | (simp [*]; done), by repeat (first | exact Drawn0.refl _ | apply Drawn0.step)⟩
 ·rw [if_neg c4] at H
  have c4b0 : decide (a1 ≤ a0) = false := decide_eq_false c4
  clear c4
  obtain rfl := Option.some.inj H
  go_enter Tryd.func22, Tryd.ntmps22
  go_wp2
  go_ret
  exact ⟨by first | rfl | (simp; done) | (simp [*]; done), by repeat (first | exact Drawn0.refl _ | apply Drawn0.step)⟩
end Go.Proofs.YtggdmblknkcigaaDoor.Q
end
