/- Texts of this claim, joined. -/
import Derived.Test.YtchkmhbngbgjnaaGreatDoorJFarthestOf01
import Derived.Lib.SlTrimSet
import Derived.Maps.OwnOps
import Derived.Maps.OwnSet
import Derived.Maps.Views
import Derived.Maps.RangeWalk
import Derived.RangeFuncBox
import Derived.RangeFuncLeaves
import Derived.RangeFuncCalls
import Derived.Shelf.Abstract
import Derived.WalkKit
import Derived.OwnWalkIn
import Derived.TacticsInMore
import Derived.LoopNIn
import Derived.LoopIn
import Derived.Maps.AppendAt
import Derived.RangeFuncNested
import Derived.RangeFuncBound
import Derived.Laws.BytesArg
import Derived.Shelf.SlSortCmp.NoneTotal
set_option linter.unusedVariables false
set_option linter.unusedSimpArgs false
set_option linter.unusedSectionVars false
section
namespace Go.Proofs.YtchkmhbngbgjnaaGreatDoor.Q
open Go.RowKit Go.Proofs.YtchkmhbngbgjnaaGreatDoorW.PrintWords Go.Proofs.YtchkmhbngbgjnaaGreatDoorW.PrintLast Go.Proofs.YtchkmhbngbgjnaaGreatDoorW.PrintMore
def Ev {α : Type} (g : Nat → Option α) (r : α) : Prop := ∃ k0, ∀ k, k0 ≤ k → g k = some r
theorem Ev.step {α : Type} {g g' : Nat → Option α} {r : α} (h : Ev g' r) (e : ∀ k, g (k + 1) = g' k) : Ev g r := by
 obtain ⟨k0, h⟩ := h
 refine ⟨k0 + 1, fun k hk => ?_⟩
 obtain ⟨m, rfl⟩ : ∃ m, k = m + 1 := ⟨k - 1, by omega⟩
 rw [e]
 exact h m (by omega)
theorem Ev.congr {α : Type} {g g' : Nat → Option α} {r : α} (h : Ev g' r) (e : ∀ k, g k = g' k) : Ev g r := by
 obtain ⟨k0, h⟩ := h
 exact ⟨k0, fun k hk => (e k).trans (h k hk)⟩
theorem Ev.const {α : Type} {o : Option α} {r : α} (h : o = some r) : Ev (fun _ => o) r := ⟨0, fun _ _ => h⟩
theorem Ev.bind {α β : Type} {g : Nat → Option α} {f : Nat → α → Option β} {a : α} {r : β} (h1 : Ev g a) (h2 : Ev (fun k => f k a) r) : Ev (fun k => (g k).bind (f k)) r := by
 obtain ⟨k1, h1⟩ := h1
 obtain ⟨k2, h2⟩ := h2
 refine ⟨max k1 k2, fun k hk => ?_⟩
 show (g k).bind (f k) = some r
 rw [h1 k (by omega)]
 exact h2 k (by omega)
theorem Ev.of_mono {α : Type} {g : Nat → Option α} {r : α} (hm : ∀ k, LeO (g k) (g (k + 1))) (k0 : Nat) (h : g k0 = some r) : Ev g r := by
 refine ⟨k0, fun k hk => ?_⟩
 obtain ⟨d, rfl⟩ : ∃ d, k = k0 + d := ⟨k - k0, by omega⟩
 clear hk
 induction d with
 | zero => exact h
 | succ d ih => exact hm _ _ ih
theorem Ev.out {α : Type} {g : Nat → Option α} {r : α} (h : Ev g r) : ∃ k, g k = some r := by
 obtain ⟨k, h⟩ := h
 exact ⟨k, h k (Nat.le_refl _)⟩
theorem ite_iff {p q : Prop} [Decidable p] [Decidable q] {α : Type} {x y : α} (h : p ↔ q) : (if p then x else y) = if q then x else y := by
 by_cases hq : q
 ·rw [if_pos hq, if_pos (h.2 hq)]
 ·rw [if_neg hq, if_neg fun hp => hq (h.1 hp)]
theorem w64 {n : Int} (h0 : -9223372036854775808 ≤ n) (h1 : n < 9223372036854775808) : wrap64 n = n := by unfold wrap64; omega
def cellSet : List UInt8 := [35, 46, 111, 97, 98, 99, 100, 101, 102]
def isCellB (b : UInt8) : Bool := cellSet.contains b
def ints (l : List UInt8) : List Int := l.map fun b => (b.toNat : Int)
theorem tyIs_eq (b : UInt8) : spec_tyIs.f (b.toNat : Int) = some (isCellB b) := by
 have h : ∀ n : Fin 256, spec_tyIs.f (n.val : Int) = some (isCellB (UInt8.ofNat n.val)) := by decide +kernel
 have h2 := h ⟨b.toNat, b.toNat_lt⟩
 simpa using h2
theorem ints_length (l : List UInt8) : (ints l).length = l.length := by simp [ints]
theorem ints_append (l m : List UInt8) : ints (l ++ m) = ints l ++ ints m := by simp [ints]
theorem ints_count (c : UInt8) : ∀ l : List UInt8, (ints l).count (c.toNat : Int) = l.count c
 | [] => rfl
 | b :: l => by
  have ih := ints_count c l
  by_cases e : b = c
  ·subst e
   rw [List.count_cons_self, ← ih]
   exact List.count_cons_self
  ·rw [List.count_cons_of_ne e, ← ih]
   refine List.count_cons_of_ne ?_
   intro e2
   have e3 : (b.toNat : Int) = (c.toNat : Int) := e2
   exact e (UInt8.toNat_inj.1 (by omega))
def namedOK (cs : List Int) : Prop := ∀ c : Int, 97 ≤ c → c ≤ 102 → cs.count c ≤ 1
instance (cs : List Int) : Decidable (namedOK cs) :=
 decidable_of_iff (∀ n : Fin 6, cs.count (97 + (n.val : Int)) ≤ 1) ⟨fun h c h1 h2 => by
  have h3 : cs.count (97 + ((c - 97).toNat : Int)) ≤ 1 := h ⟨(c - 97).toNat, by omega⟩
  rw [show (97 + ((c - 97).toNat : Int)) = c by omega] at h3
  exact h3, fun h n => h _ (by omega) (by omega)⟩
theorem namedOK_nil : namedOK [] := fun c _ _ => by simp
theorem namedOK_snoc (cs : List Int) (x : Int) (h : namedOK cs) : namedOK (cs ++ [x]) ↔ ¬ (97 ≤ x ∧ x ≤ 102 ∧ x ∈ cs) := by
 constructor
 ·intro h2 ⟨h3, h4, h5⟩
  have := h2 x h3 h4
  have h6 : 0 < cs.count x := List.count_pos_iff.2 h5
  rw [List.count_append, List.count_singleton_self] at this
  omega
 ·intro h2 c h3 h4
  rw [List.count_append]
  by_cases e : x = c
  ·subst e
   have : cs.count x = 0 := List.count_eq_zero.2 fun h5 => h2 ⟨h3, h4, h5⟩
   rw [this, List.count_singleton_self]
   omega
  ·have h5 := h c h3 h4
   have : [x].count c = 0 := by
    rw [List.count_eq_zero]
    simp
    exact fun e2 => e e2.symm
   omega
theorem namedOK_take (cs : List Int) (i : Nat) (h : namedOK cs) : namedOK (cs.take i) := fun c h1 h2 =>
 Nat.le_trans ((List.take_sublist i cs).count_le c) (h c h1 h2)
theorem rows_size (c : UInt8) : ∀ l, (rows c l).flatten.length + (rows c l).length = l.length + 1
 | [] => by simp [rows]
 | b :: l => by
  have ih := rows_size c l
  unfold rows
  split
  ·simp only [List.flatten_cons, List.nil_append, List.length_cons]; omega
  ·split
   ·rename_i e; exact absurd e (rows_ne c l)
   ·rename_i r rs e
    rw [e] at ih
    simp only [List.flatten_cons, List.length_append, List.length_cons] at ih ⊢
    omega
theorem rows_count (c d : UInt8) (hd : d ≠ c) : ∀ l, (rows c l).flatten.count d = l.count d
 | [] => by simp [rows]
 | b :: l => by
  have ih := rows_count c d hd l
  unfold rows
  split
  ·rename_i e
   subst e
   rw [List.flatten_cons, List.nil_append, ih, List.count_cons_of_ne (Ne.symm hd)]
  ·split
   ·rename_i e; exact absurd e (rows_ne c l)
   ·rename_i r rs e
    rw [e] at ih
    rw [List.flatten_cons] at ih ⊢
    rw [List.cons_append, List.count_cons, ih, List.count_cons]
def tw (rs : List (List UInt8)) : Nat := (rs.headD []).length
def evenRows (w : Nat) (rs : List (List UInt8)) : Prop := ∀ r ∈ rs, r.length = w ∧ r.all isCellB = true
instance (w : Nat) (rs : List (List UInt8)) : Decidable (evenRows w rs) := inferInstanceAs (Decidable (∀ r ∈ rs, _))
theorem evenRows_cons (w : Nat) (r : List UInt8) (rs : List (List UInt8)) : evenRows w (r :: rs) ↔ (r.length = w ∧ r.all isCellB = true) ∧ evenRows w rs := by
 unfold evenRows
 simp only [List.mem_cons, forall_eq_or_imp]
theorem evenRows_flat (w : Nat) : ∀ rs, evenRows w rs → rs.flatten.length = w * rs.length
 | [], _ => by simp
 | r :: rs, h => by
  have h2 := (evenRows_cons w r rs).1 h
  rw [List.flatten_cons, List.length_append, evenRows_flat w rs h2.2, h2.1.1, List.length_cons, Nat.mul_add, Nat.mul_one]
  omega
def okRows (rs : List (List UInt8)) : Prop := (1 ≤ tw rs ∧ tw rs ≤ 7 ∧ rs.length ≤ 7 ∧ tw rs * rs.length ≤ 36) ∧ evenRows (tw rs) rs ∧ namedOK (ints rs.flatten)
instance (rs : List (List UInt8)) : Decidable (okRows rs) := inferInstanceAs (Decidable (_ ∧ _ ∧ _))
def trayRows (rs : List (List UInt8)) : Option (Int × Int × List Int) := if okRows rs then some (tw rs, rs.length, ints rs.flatten) else none
def trayOf (s : ByteArray) : Option (Int × Int × List Int) := trayRows (rows 47 s.data.toList)
theorem trayOf_small (s : ByteArray) (h : trayOf s ≠ none) : s.size ≤ 42 := by
 unfold trayOf trayRows at h
 split at h
 ·rename_i hk
  have h1 := rows_size 47 s.data.toList
  have h2 := evenRows_flat _ _ hk.2.1
  have h3 := data_length s
  have := hk.1
  omega
 ·exact absurd rfl h
def failT : Int × Int × List Int × Bool := (0, 0, [], false)
def tellT : Option (Int × Int × List Int) → Int × Int × List Int × Bool
 | none => failT
 | some (w, h, cs) => (w, h, cs, true)
theorem ty_l2 (cs pre : List Int) (i w h : Int) (x : Int) (K : Int × Int × List Int × Bool) (hl : pre.length ≤ 36)
  (hK : Ev (fun k => spec_tyRead.l1 k cs cs.length (wrap64 (i + 1)) w h cs) K) :
  ∀ (m j : Nat), j + m = pre.length → Ev (fun k => spec_tyRead.l2 k x cs cs.length i pre pre.length j w h cs) (if 97 ≤ x ∧ x ≤ 102 ∧ x ∈ pre.drop j then failT else K)
 | 0, j, hj => by
  refine Ev.step (g' := fun k => spec_tyRead.l1 k cs cs.length (wrap64 (i + 1)) w h cs) ?_ (fun k => ?_)
  ·rw [List.drop_eq_nil_of_le (by omega), if_neg (by simp)]
   exact hK
  ·rw [spec_tyRead.l2, if_neg (by omega)]
 | m + 1, j, hj => by
  have ih := ty_l2 cs pre i w h x K hl hK m (j + 1) (by omega)
  have hlt : j < pre.length := by omega
  have hd : pre.drop j = pre[j] :: pre.drop (j + 1) := List.drop_eq_getElem_cons hlt
  have hr : rd pre (j : Int) = pre[j] := by
   unfold rd
   rw [Int.toNat_natCast, List.getD_eq_getElem?_getD, List.getElem?_eq_getElem hlt]
   rfl
  have hw : wrap64 ((j : Int) + 1) = ((j + 1 : Nat) : Int) := by rw [w64 (by omega) (by omega)]; omega
  rw [hd]
  by_cases hx : x = pre[j] ∧ 97 ≤ x ∧ x ≤ 102
  ·rw [if_pos ⟨hx.2.1, hx.2.2, by rw [hx.1]; exact List.mem_cons_self⟩]
   refine Ev.step (Ev.const (o := some failT) rfl) (fun k => ?_)
   rw [spec_tyRead.l2, if_pos (by omega), if_pos (by omega), if_pos (by omega), hr, if_pos hx.1, if_pos (by omega), if_pos (by omega)]
   rfl
  ·have e : (97 ≤ x ∧ x ≤ 102 ∧ x ∈ pre[j] :: pre.drop (j + 1)) ↔ (97 ≤ x ∧ x ≤ 102 ∧ x ∈ pre.drop (j + 1)) := by
    constructor
    ·rintro ⟨h1, h2, h3⟩
     refine ⟨h1, h2, (List.mem_cons.1 h3).resolve_left fun e => hx ⟨e, h1, h2⟩⟩
    ·rintro ⟨h1, h2, h3⟩
     exact ⟨h1, h2, List.mem_cons_of_mem _ h3⟩
   rw [ite_iff e]
   refine Ev.step ih (fun k => ?_)
   rw [spec_tyRead.l2, if_pos (by omega), if_pos (by omega), if_pos (by omega), hr, hw]
   by_cases h1 : x = pre[j]
   ·rw [if_pos h1]
    by_cases h2 : x ≥ 97
    ·rw [if_pos h2, if_neg (fun h3 => hx ⟨h1, h2, h3⟩)]
    ·rw [if_neg h2]
   ·rw [if_neg h1]
theorem ty_l2_hit (cs pre : List Int) (i w h x : Int) (hl : pre.length ≤ 36) (h1 : 97 ≤ x) (h2 : x ≤ 102) :
  ∀ (m j : Nat), j + m = pre.length → x ∈ pre.drop j → Ev (fun k => spec_tyRead.l2 k x cs cs.length i pre pre.length j w h cs) failT
 | 0, j, hj, hx => by
  rw [List.drop_eq_nil_of_le (by omega)] at hx
  exact absurd hx (by simp)
 | m + 1, j, hj, hx => by
  have hlt : j < pre.length := by omega
  have hd : pre.drop j = pre[j] :: pre.drop (j + 1) := List.drop_eq_getElem_cons hlt
  have hr : rd pre (j : Int) = pre[j] := by
   unfold rd
   rw [Int.toNat_natCast, List.getD_eq_getElem?_getD, List.getElem?_eq_getElem hlt]
   rfl
  have hw : wrap64 ((j : Int) + 1) = ((j + 1 : Nat) : Int) := by rw [w64 (by omega) (by omega)]; omega
  by_cases hp : x = pre[j]
  ·refine Ev.step (Ev.const (o := some failT) rfl) (fun k => ?_)
   rw [spec_tyRead.l2, if_pos (by omega), if_pos (by omega), if_pos (by omega), hr, if_pos hp, if_pos (by omega), if_pos (by omega)]
   rfl
  ·rw [hd] at hx
   refine Ev.step (ty_l2_hit cs pre i w h x hl h1 h2 m (j + 1) (by omega) ((List.mem_cons.1 hx).resolve_left hp)) (fun k => ?_)
   rw [spec_tyRead.l2, if_pos (by omega), if_pos (by omega), if_pos (by omega), hr, hw, if_neg hp]
theorem ty_l1 (cs : List Int) (w h : Int) (hl : cs.length ≤ 36) :
  ∀ (m i : Nat), i + m = cs.length → namedOK (cs.take i) → Ev (fun k => spec_tyRead.l1 k cs cs.length i w h cs) (if namedOK cs then (w, h, cs, true) else failT)
 | 0, i, hi, hn => by
  have e : cs.take i = cs := List.take_of_length_le (by omega)
  rw [e] at hn
  rw [if_pos hn]
  refine Ev.step (Ev.const (o := some (w, h, cs, true)) rfl) (fun k => ?_)
  rw [spec_tyRead.l1, if_neg (by omega)]
 | m + 1, i, hi, hn => by
  have hlt : i < cs.length := by omega
  have hr : rd cs (i : Int) = cs[i] := by
   unfold rd
   rw [Int.toNat_natCast, List.getD_eq_getElem?_getD, List.getElem?_eq_getElem hlt]
   rfl
  have hw : wrap64 ((i : Int) + 1) = ((i + 1 : Nat) : Int) := by rw [w64 (by omega) (by omega)]; omega
  have ht : cs.take (i + 1) = cs.take i ++ [cs[i]] := List.take_succ_eq_append_getElem hlt
  have hs := namedOK_snoc (cs.take i) cs[i] hn
  have hpl : (cs.take i).length ≤ 36 := by rw [List.length_take]; omega
  have hb : ∀ K, Ev (fun k => spec_tyRead.l1 k cs cs.length (wrap64 ((i : Int) + 1)) w h cs) K →
    Ev (fun k => spec_tyRead.l1 k cs cs.length i w h cs) (if 97 ≤ cs[i] ∧ cs[i] ≤ 102 ∧ cs[i] ∈ cs.take i then failT else K) := by
   intro K hK
   have h2 := ty_l2 cs (cs.take i) i w h cs[i] K hpl hK (cs.take i).length 0 (by omega)
   refine Ev.step h2 (fun k => ?_)
   rw [spec_tyRead.l1, if_pos (by omega), if_pos (by omega), if_pos (by omega), if_pos (by omega), hr]
   simp only [Option.bind_some, Int.toNat_natCast]
   rfl
  by_cases hc : 97 ≤ cs[i] ∧ cs[i] ≤ 102 ∧ cs[i] ∈ cs.take i
  ·have h3 : ¬ namedOK cs := fun h4 => by
    have h5 := namedOK_take cs (i + 1) h4
    rw [ht] at h5
    exact hs.1 h5 hc
   rw [if_neg h3]
   -- the tail's answer does not matter: the inner walk fails first
   refine Ev.step (g' := fun k => spec_tyRead.l2 k cs[i] cs cs.length i (cs.take i) (cs.take i).length 0 w h cs) ?_ (fun k => ?_)
   ·exact ty_l2_hit cs (cs.take i) i w h cs[i] hpl hc.1 hc.2.1 (cs.take i).length 0 (by omega) hc.2.2
   ·rw [spec_tyRead.l1, if_pos (by omega), if_pos (by omega), if_pos (by omega), if_pos (by omega), hr]
    simp only [Option.bind_some, Int.toNat_natCast]
  ·have h4 := ty_l1 cs w h hl m (i + 1) (by omega) (by rw [ht]; exact hs.2 hc)
   rw [← hw] at h4
   have h5 := hb _ h4
   rwa [if_neg hc] at h5
def rr : List (List UInt8) → Nat → Nat → Nat → List Int → Option (Nat × Nat × List Int)
 | [], _, w, h, cs => some (w, h, cs)
 | r :: rs, x, w, h, cs => if r.all isCellB = true ∧ x + r.length ≠ 0 ∧ (h = 0 ∨ x + r.length = w) then rr rs 0 (x + r.length) (h + 1) (cs ++ ints r) else none
def tellR : Option (Nat × Nat × List Int) → Int × Int × List Int × Bool
 | none => failT
 | some (w, h, cs) => if (w ≤ 7 ∧ h ≤ 7 ∧ cs.length ≤ 36) ∧ namedOK cs then (w, h, cs, true) else failT
theorem ty_end (s : ByteArray) (w h : Nat) (cs : List Int) (i x : Int) (hi : ¬ i ≤ (s.size : Int)) : Ev (fun k => spec_tyRead.l0 k s x i w h cs) (tellR (some (w, h, cs))) := by
 by_cases hc : w ≤ 7 ∧ h ≤ 7 ∧ cs.length ≤ 36
 ·have h1 := ty_l1 cs w h hc.2.2 cs.length 0 (by omega) (by simpa using namedOK_nil)
  have e : tellR (some (w, h, cs)) = if namedOK cs then ((w : Int), (h : Int), cs, true) else failT := by
   unfold tellR
   exact ite_iff ⟨fun h2 => h2.2, fun h2 => ⟨hc, h2⟩⟩
  rw [e]
  refine Ev.step (g' := fun k => spec_tyRead.j2 k false w h cs) (Ev.step h1 fun k => ?_) (fun k => ?_)
  ·rw [spec_tyRead.j2, if_neg (by decide)]
   rfl
  ·rw [spec_tyRead.l0, if_neg hi, if_neg (by omega), if_neg (by omega), show decide ((cs.length : Int) > 36) = false from decide_eq_false (by omega)]
 ·have e : tellR (some (w, h, cs)) = failT := if_neg fun h2 => hc h2.1
  rw [e]
  refine Ev.step (g' := fun k => spec_tyRead.j2 k true w h cs) (Ev.step (Ev.const (o := some failT) rfl) fun k => ?_) (fun k => ?_)
  ·rw [spec_tyRead.j2, if_pos rfl]
   rfl
  ·rw [spec_tyRead.l0, if_neg hi]
   by_cases h1 : (w : Int) > 7
   ·rw [if_pos h1]
   ·rw [if_neg h1]
    by_cases h2 : (h : Int) > 7
    ·rw [if_pos h2]
    ·rw [if_neg h2, show decide ((cs.length : Int) > 36) = true from decide_eq_true (by omega)]
theorem ty_row (s : ByteArray) (x w h i : Nat) (cs : List Int) (hh : h ≤ 42) (hi : i ≤ 42) (K : Int × Int × List Int × Bool) (hK : Ev (fun k => spec_tyRead.l0 k s 0 ((i + 1 : Nat) : Int) x ((h + 1 : Nat) : Int) cs) K) :
  Ev (fun k => spec_tyRead.j1 k s x i false w h cs) (if x ≠ 0 ∧ (h = 0 ∨ x = w) then K else failT) := by
 have hw1 : wrap64 ((i : Int) + 1) = ((i + 1 : Nat) : Int) := by rw [w64 (by omega) (by omega)]; omega
 have hw2 : wrap64 ((h : Int) + 1) = ((h + 1 : Nat) : Int) := by rw [w64 (by omega) (by omega)]; omega
 by_cases hc : x ≠ 0 ∧ (h = 0 ∨ x = w)
 ·rw [if_pos hc]
  refine Ev.step hK fun k => ?_
  rw [spec_tyRead.j1, if_neg (by decide), hw1, hw2]
  by_cases h1 : (h : Int) > 0
  ·rw [if_pos h1, if_pos (by omega), if_neg (by omega)]
  ·rw [if_neg h1, if_neg (by omega)]
 ·rw [if_neg hc]
  refine Ev.step (Ev.const (o := some failT) rfl) fun k => ?_
  rw [spec_tyRead.j1, if_neg (by decide)]
  by_cases h1 : (h : Int) > 0
  ·rw [if_pos h1]
   by_cases h2 : (x : Int) = w
   ·rw [if_pos h2, if_pos (by omega)]
    rfl
   ·rw [if_neg h2]
    rfl
  ·rw [if_neg h1, if_pos (by omega)]
   rfl
theorem bt_drop (s : ByteArray) (i : Nat) (b : UInt8) (l : List UInt8) (h : s.data.toList.drop i = b :: l) : bt s (i : Int) = b.toNat ∧ i < s.size ∧ s.data.toList.drop (i + 1) = l := by
 have h1 : i < s.data.toList.length := by
  rcases Nat.lt_or_ge i s.data.toList.length with h2 | h2
  ·exact h2
  ·rw [List.drop_eq_nil_of_le h2] at h
   cases h
 have h2 := List.drop_eq_getElem_cons h1
 rw [h] at h2
 injection h2 with h3 h4
 have hlt : i < s.size := by rw [← data_length]; exact h1
 refine ⟨?_, hlt, h4.symm⟩
 rw [← rd_bytesOf]
 unfold rd bytesOf
 rw [Int.toNat_natCast, List.getD_eq_getElem?_getD, List.getElem?_map, List.getElem?_eq_getElem h1, ← h3]
 rfl
theorem ty_l0 (s : ByteArray) (hs : s.size ≤ 42) : ∀ (rest : List UInt8) (i x w h : Nat) (cs : List Int), s.data.toList.drop i = rest → i ≤ s.size → x ≤ i → h ≤ i → cs.length ≤ i →
  Ev (fun k => spec_tyRead.l0 k s x i w h cs) (tellR (rr (rows 47 rest) x w h cs))
 | [], i, x, w, h, cs, hd, hi, hx, hh, hc => by
  have hle : i = s.size := by
   have : s.data.toList.length ≤ i := List.drop_eq_nil_iff.1 hd
   rw [data_length] at this
   omega
  subst hle
  have h1 := ty_end s x (h + 1) cs ((s.size + 1 : Nat) : Int) 0 (by omega)
  have h2 := ty_row s x w h s.size cs (by omega) (by omega) _ h1
  have e : tellR (rr (rows 47 []) x w h cs) = if x ≠ 0 ∧ (h = 0 ∨ x = w) then tellR (some (x, h + 1, cs)) else failT := by
   simp only [rows, rr, List.all_nil, true_and, List.length_nil, Nat.add_zero, ints, List.map_nil, List.append_nil]
   by_cases hc : x ≠ 0 ∧ (h = 0 ∨ x = w)
   ·rw [if_pos hc, if_pos hc]
   ·rw [if_neg hc, if_neg hc]
    rfl
  rw [e]
  refine Ev.step h2 fun k => ?_
  rw [spec_tyRead.l0, if_pos (by omega), if_neg (by omega)]
 | b :: l, i, x, w, h, cs, hd, hi, hx, hh, hc => by
  obtain ⟨hb, hlt, hd2⟩ := bt_drop s i b l hd
  have hw1 : wrap64 ((i : Int) + 1) = ((i + 1 : Nat) : Int) := by rw [w64 (by omega) (by omega)]; omega
  have hw2 : wrap64 ((x : Int) + 1) = ((x + 1 : Nat) : Int) := by rw [w64 (by omega) (by omega)]; omega
  by_cases h47 : b = 47
  ·subst h47
   have h1 := ty_l0 s hs l (i + 1) 0 x (h + 1) cs hd2 (by omega) (by omega) (by omega) (by omega)
   have h2 := ty_row s x w h i cs (by omega) (by omega) _ h1
   have e : tellR (rr (rows 47 (47 :: l)) x w h cs) = if x ≠ 0 ∧ (h = 0 ∨ x = w) then tellR (rr (rows 47 l) 0 x (h + 1) cs) else failT := by
    rw [rows, if_pos rfl]
    simp only [rr, List.all_nil, true_and, List.length_nil, Nat.add_zero, ints, List.map_nil, List.append_nil]
    by_cases hc : x ≠ 0 ∧ (h = 0 ∨ x = w)
    ·rw [if_pos hc, if_pos hc]
    ·rw [if_neg hc, if_neg hc]
     rfl
   rw [e]
   refine Ev.step h2 fun k => ?_
   rw [spec_tyRead.l0, if_pos (by omega), if_pos (by omega), if_pos (by omega), hb]
   rfl
  ·have hne : ((b.toNat : Int) != 47) = true := by
    rw [bne_iff_ne]
    intro e
    apply h47
    apply UInt8.toNat_inj.1
    show b.toNat = 47
    omega
   obtain ⟨r, rs, e1⟩ : ∃ r rs, rows 47 l = r :: rs := by
    rcases e : rows 47 l with _ | ⟨r, rs⟩
    ·exact absurd e (rows_ne 47 l)
    ·exact ⟨r, rs, rfl⟩
   have e2 : rows 47 (b :: l) = (b :: r) :: rs := by rw [rows, if_neg h47, e1]
   have hstep : ∀ g : Nat → Option (Int × Int × List Int × Bool), ∀ K, Ev g K → (∀ k, spec_tyRead.j1 (k + 1) s x i true w h cs = g k) → Ev (fun k => spec_tyRead.l0 k s x i w h cs) K := by
    intro g K hg he
    refine Ev.step (g' := fun k => spec_tyRead.j1 k s x i true w h cs) (Ev.step hg he) fun k => ?_
    rw [spec_tyRead.l0, if_pos (by omega), if_pos (by omega), if_pos (by omega), hb, hne]
   by_cases hcb : isCellB b = true
   ·have h1 := ty_l0 s hs l (i + 1) (x + 1) w h (cs ++ [(b.toNat : Int)]) hd2 (by omega) (by omega) (by omega) (by rw [List.length_append]; simp; omega)
    have e : rr (rows 47 (b :: l)) x w h cs = rr (rows 47 l) (x + 1) w h (cs ++ [(b.toNat : Int)]) := by
     rw [e1, e2]
     simp only [rr, List.all_cons, hcb, Bool.true_and, List.length_cons, ints, List.map_cons, List.append_assoc, List.cons_append, List.nil_append]
     rw [show x + (r.length + 1) = x + 1 + r.length by omega]
    rw [e]
    refine hstep _ _ h1 fun k => ?_
    rw [spec_tyRead.j1, if_pos rfl, if_pos (by omega), if_pos (by omega), hb, tyIs_eq, hcb, Option.bind_some, if_pos rfl, if_pos (by omega), hw1, hw2]
   ·have e : tellR (rr (rows 47 (b :: l)) x w h cs) = failT := by
     rw [e2, rr, if_neg (fun h3 => by have h4 := h3.1; simp [hcb] at h4)]
     rfl
    rw [e]
    refine hstep (fun _ => some failT) _ (Ev.const rfl) fun k => ?_
    rw [spec_tyRead.j1, if_pos rfl, if_pos (by omega), if_pos (by omega), hb, tyIs_eq, Bool.eq_false_iff.2 hcb, Option.bind_some, if_neg (by decide)]
    rfl
theorem rr_more (w : Nat) (hw : w ≠ 0) : ∀ (rs : List (List UInt8)) (h : Nat) (cs : List Int), 0 < h → rr rs 0 w h cs = if evenRows w rs then some (w, h + rs.length, cs ++ ints rs.flatten) else none
 | [], h, cs, hh => by
  rw [if_pos (show evenRows w [] from fun r hr => by simp at hr)]
  simp [rr, ints]
 | r :: rs, h, cs, hh => by
  have ih := rr_more w hw rs (h + 1) (cs ++ ints r) (by omega)
  unfold rr
  rw [ite_iff (evenRows_cons w r rs)]
  by_cases hc : r.length = w ∧ r.all isCellB = true
  ·rw [if_pos ⟨hc.2, by omega, Or.inr (by omega)⟩, Nat.zero_add, hc.1, ih]
   by_cases h2 : evenRows w rs
   ·rw [if_pos h2, if_pos ⟨⟨rfl, hc.2⟩, h2⟩]
    simp only [List.length_cons, List.flatten_cons, ints_append, List.append_assoc]
    rw [show h + 1 + rs.length = h + (rs.length + 1) by omega]
   ·rw [if_neg h2, if_neg fun h3 => h2 h3.2]
  ·rw [if_neg (fun h3 => hc ⟨by have := h3.2.2; omega, h3.1⟩), if_neg fun h3 => hc h3.1]
theorem rr_all (rs : List (List UInt8)) (hn : rs ≠ []) : rr rs 0 0 0 [] = if tw rs ≠ 0 ∧ evenRows (tw rs) rs then some (tw rs, rs.length, ints rs.flatten) else none := by
 rcases rs with _ | ⟨r, rs⟩
 ·exact absurd rfl hn
 ·have e : tw (r :: rs) = r.length := rfl
  unfold rr
  rw [e]
  by_cases hc : r.all isCellB = true ∧ r.length ≠ 0
  ·rw [if_pos ⟨hc.1, by omega, Or.inl rfl⟩, Nat.zero_add, rr_more r.length hc.2 rs 1 _ (by omega)]
   rw [ite_iff (evenRows_cons r.length r rs |> fun h => show evenRows r.length rs ↔ r.length ≠ 0 ∧ evenRows r.length (r :: rs) from ⟨fun h2 => ⟨hc.2, h.2 ⟨⟨rfl, hc.1⟩, h2⟩⟩, fun h2 => (h.1 h2.2).2⟩)]
   simp only [List.length_cons, List.flatten_cons, ints_append, List.nil_append]
   rw [show 1 + rs.length = rs.length + 1 by omega]
  ·rw [if_neg (fun h3 => hc ⟨h3.1, by have := h3.2.1; omega⟩), if_neg fun h3 => hc ⟨((evenRows_cons _ _ _).1 h3.2).1.2, h3.1⟩]
theorem tyRead_ev (s : ByteArray) : Ev (fun k => spec_tyRead.f k s) (tellT (trayOf s)) := by
 by_cases hs : s.size ≤ 42
 ·have h1 := ty_l0 s hs s.data.toList 0 0 0 0 [] rfl (by omega) (by omega) (by omega) (by simp)
  have e : tellR (rr (rows 47 s.data.toList) 0 0 0 []) = tellT (trayOf s) := by
   rw [rr_all _ (rows_ne 47 _)]
   unfold trayOf trayRows
   have h2 := evenRows_flat (tw (rows 47 s.data.toList)) (rows 47 s.data.toList)
   generalize rows 47 s.data.toList = rs at h2 ⊢
   by_cases hc : tw rs ≠ 0 ∧ evenRows (tw rs) rs
   ·rw [if_pos hc]
    have h3 := h2 hc.2
    show (if _ then _ else _) = _
    rw [ite_iff (show ((tw rs ≤ 7 ∧ rs.length ≤ 7 ∧ (ints rs.flatten).length ≤ 36) ∧ namedOK (ints rs.flatten)) ↔ okRows rs by
     rw [ints_length, h3]
     exact ⟨fun h => ⟨⟨by omega, h.1⟩, hc.2, h.2⟩, fun h => ⟨h.1.2, h.2.2⟩⟩)]
    by_cases h4 : okRows rs
    ·rw [if_pos h4, if_pos h4]
     rfl
    ·rw [if_neg h4, if_neg h4]
     rfl
   ·rw [if_neg hc, if_neg (fun h => hc ⟨by have := h.1.1; omega, h.2.1⟩)]
    rfl
  rw [← e]
  refine Ev.congr h1 fun k => ?_
  rw [spec_tyRead.f, if_neg (by omega)]
  rfl
 ·have e : trayOf s = none := by
   rcases h : trayOf s with _ | t
   ·rfl
   ·exact absurd (trayOf_small s (by rw [h]; exact fun e => nomatch e)) hs
  rw [e]
  refine Ev.congr (Ev.const (o := some failT) rfl) fun k => ?_
  rw [spec_tyRead.f, if_pos (by omega)]
  rfl
end Go.Proofs.YtchkmhbngbgjnaaGreatDoor.Q
end
section
namespace Go.Proofs.YtchkmhbngbgjnaaGreatDoor.Q
structure BSt (α : Type) where
 x : α
 far : Nat
 word : List Nat
 before : Int
 dir : Nat
section
set_option linter.unusedSectionVars false
set_option linter.unusedVariables false
variable {α : Type} [DecidableEq α] (T : Nat → α → α)
def bIdx : List (BSt α) → α → Nat → Option Nat
 | [], _, _ => none
 | s :: l, y, i => if s.x = y then some i else bIdx l y (i + 1)
theorem b_idx_some : ∀ (L : List (BSt α)) (y : α) (i k : Nat), bIdx L y i = some k → i ≤ k ∧ k < i + L.length ∧ ∃ s : BSt α, L[k - i]? = some s ∧ s.x = y
 | [], y, i, k, h => by cases h
 | s :: l, y, i, k, h => by
  unfold bIdx at h
  split at h
  ·rename_i e
   cases h
   exact ⟨Nat.le_refl _, by simp, s, by simp, e⟩
  ·obtain ⟨h1, h2, s', h3, h4⟩ := b_idx_some l y (i + 1) k h
   refine ⟨by omega, by simp; omega, s', ?_, h4⟩
   rw [show k - i = (k - (i + 1)) + 1 by omega, List.getElem?_cons_succ]
   exact h3
theorem b_idx_none : ∀ (L : List (BSt α)) (y : α) (i : Nat), bIdx L y i = none ↔ ∀ s ∈ L, s.x ≠ y
 | [], y, i => by simp [bIdx]
 | s :: l, y, i => by
  unfold bIdx
  split
  ·rename_i e
   simp [e]
  ·rename_i e
   rw [b_idx_none l y (i + 1)]
   simp [e]
def bOne (L : List (BSt α)) (i : Nat) (s : BSt α) (d : Nat) : Option (List (BSt α) × Nat) :=
 match bIdx L (T d s.x) 0 with
 | some k => some (L, k)
 | none => if L.length = 300 then none else some (L ++ [⟨T d s.x, s.far + 1, s.word ++ [d], i, d⟩], L.length)
def bFour (i : Nat) (s : BSt α) : List Nat → List (BSt α) → List Nat → Option (List (BSt α) × List Nat)
 | [], L, nx => some (L, nx)
 | d :: ds, L, nx => (bOne T L i s d).bind fun p => bFour i s ds p.1 (nx ++ [p.2])
def bAll : Nat → Nat → List (BSt α) → List (List Nat) → Option (List (BSt α) × List (List Nat))
 | 0, _, L, N => some (L, N)
 | m + 1, i, L, N => match L[i]? with
  | none => some (L, N)
  | some s => (bFour T i s [0, 1, 2, 3] L []).bind fun p => bAll m (i + 1) p.1 (N ++ [p.2])
structure BInv (t : α) (L : List (BSt α)) : Prop where
 first : ∃ l, L = ⟨t, 0, [], -1, 0⟩ :: l
 len : L.length ≤ 300
 nodup : (L.map BSt.x).Nodup
 back : ∀ (k : Nat) (s : BSt α), L[k]? = some s → 0 < k → ∃ (j : Nat) (b : BSt α), s.before = (j : Int) ∧ j < k ∧ L[j]? = some b ∧ s.x = T s.dir b.x ∧ s.far = b.far + 1 ∧ s.word = b.word ++ [s.dir] ∧ s.dir < 4
theorem BInv.made (t : α) : BInv T t [⟨t, 0, [], -1, 0⟩] where
 first := ⟨[], rfl⟩
 len := by simp
 nodup := by simp
 back := fun k s h hk => by
  rw [List.getElem?_eq_none (by simp; omega)] at h
  cases h
theorem BInv.one {t : α} {L : List (BSt α)} (h : BInv T t L) {i d : Nat} {s : BSt α} (hs : L[i]? = some s) (hd : d < 4) {p : List (BSt α) × Nat} (hp : bOne T L i s d = some p) :
  BInv T t p.1 ∧ (∃ l, p.1 = L ++ l) ∧ ∃ r : BSt α, p.1[p.2]? = some r ∧ r.x = T d s.x := by
 have hi := (List.getElem?_eq_some_iff.1 hs).1
 unfold bOne at hp
 split at hp
 ·rename_i k hk
  cases hp
  obtain ⟨_, h2, r, h3, h4⟩ := b_idx_some L _ 0 k hk
  exact ⟨h, ⟨[], by simp⟩, r, by simpa using h3, h4⟩
 ·rename_i hn
  split at hp
  ·cases hp
  ·rename_i hl
   cases hp
   have hlen := h.len
   refine ⟨⟨?_, by simp; omega, ?_, ?_⟩, ⟨_, rfl⟩, ⟨_, by simp; rfl, rfl⟩⟩
   ·obtain ⟨l, e⟩ := h.first
    exact ⟨l ++ _, by rw [e]; rfl⟩
   ·rw [List.map_append, List.nodup_append]
    refine ⟨h.nodup, by simp, fun a ha b hb e => ?_⟩
    simp at hb
    obtain ⟨s', hs', rfl⟩ := List.mem_map.1 ha
    exact (b_idx_none L _ 0).1 hn s' hs' (e.trans hb)
   ·intro k s' hk h0
    rcases Nat.lt_trichotomy k L.length with hlt | heq | hgt
    ·rw [List.getElem?_append_left hlt] at hk
     obtain ⟨j, b, h1, h2, h3, h4⟩ := h.back k s' hk h0
     exact ⟨j, b, h1, h2, by rw [List.getElem?_append_left (by omega)]; exact h3, h4⟩
    ·subst heq
     simp at hk
     subst hk
     exact ⟨i, s, rfl, hi, by rw [List.getElem?_append_left hi]; exact hs, rfl, rfl, rfl, hd⟩
    ·rw [List.getElem?_eq_none (by simp; omega)] at hk
     cases hk
theorem b_four_inv {t : α} {i : Nat} {s : BSt α} : ∀ (ds : List Nat) (L : List (BSt α)) (nx : List Nat) (p : List (BSt α) × List Nat), BInv T t L → L[i]? = some s → (∀ d ∈ ds, d < 4) → bFour T i s ds L nx = some p →
  BInv T t p.1 ∧ (∃ l, p.1 = L ++ l) ∧ ∃ ms : List Nat, p.2 = nx ++ ms ∧ ms.length = ds.length ∧ ∀ (q d k : Nat), ds[q]? = some d → ms[q]? = some k → ∃ r : BSt α, p.1[k]? = some r ∧ r.x = T d s.x
 | [], L, nx, p, h, hs, hd, hp => by
  cases hp
  exact ⟨h, ⟨[], by simp⟩, [], by simp, rfl, fun q d k h1 => by simp at h1⟩
 | d :: ds, L, nx, p, h, hs, hd, hp => by
  unfold bFour at hp
  obtain ⟨p1, h1, h2⟩ := Option.bind_eq_some_iff.1 hp
  obtain ⟨g1, ⟨l1, g2⟩, r, g3, g4⟩ := h.one T hs (hd d (by simp)) h1
  have hi := (List.getElem?_eq_some_iff.1 hs).1
  obtain ⟨k1, ⟨l2, k2⟩, ms, k3, k4, k5⟩ := b_four_inv ds p1.1 (nx ++ [p1.2]) p g1 (by rw [g2, List.getElem?_append_left hi]; exact hs) (fun d' hd' => hd d' (by simp [hd'])) h2
  refine ⟨k1, ⟨l1 ++ l2, by rw [k2, g2, List.append_assoc]⟩, p1.2 :: ms, by rw [k3, List.append_assoc]; rfl, by simp [k4], fun q d' k h1 h2 => ?_⟩
  cases q with
  | zero =>
   simp at h1 h2
   subst h1 h2
   refine ⟨r, ?_, g4⟩
   rw [k2, List.getElem?_append_left ((List.getElem?_eq_some_iff.1 g3).1)]
   exact g3
  | succ q =>
   simp at h1 h2
   exact k5 q d' k h1 h2
structure BDone (t : α) (L : List (BSt α)) (N : List (List Nat)) : Prop where
 inv : BInv T t L
 len : N.length = L.length
 next : ∀ (i : Nat) (s : BSt α), L[i]? = some s → ∃ nx : List Nat, N[i]? = some nx ∧ nx.length = 4 ∧ ∀ (d k : Nat), nx[d]? = some k → ∃ r : BSt α, L[k]? = some r ∧ r.x = T d s.x
theorem b_all_fin {t : α} : ∀ (m i : Nat) (L : List (BSt α)) (N : List (List Nat)) (p : List (BSt α) × List (List Nat)), m + i = 301 → i ≤ L.length → N.length = i → BInv T t L →
  (∀ (j : Nat) (s : BSt α), j < i → L[j]? = some s → ∃ nx : List Nat, N[j]? = some nx ∧ nx.length = 4 ∧ ∀ (d k : Nat), nx[d]? = some k → ∃ r : BSt α, L[k]? = some r ∧ r.x = T d s.x) → bAll T m i L N = some p → BDone T t p.1 p.2
 | 0, i, L, N, p, hm, hi, hN, h, hc, hp => by
  have := h.len
  omega
 | m + 1, i, L, N, p, hm, hi, hN, h, hc, hp => by
  unfold bAll at hp
  split at hp
  ·rename_i hs
   cases hp
   have := List.getElem?_eq_none_iff.1 hs
   have e : i = L.length := by omega
   subst e
   exact ⟨h, hN, fun j s hj => hc j s (List.getElem?_eq_some_iff.1 hj).1 hj⟩
  ·rename_i s hs
   obtain ⟨q, h1, h2⟩ := Option.bind_eq_some_iff.1 hp
   obtain ⟨k1, ⟨l2, k2⟩, ms, k3, k4, k5⟩ := b_four_inv T [0, 1, 2, 3] L [] q h hs (by decide) h1
   have hi' := (List.getElem?_eq_some_iff.1 hs).1
   refine b_all_fin m (i + 1) q.1 (N ++ [q.2]) p (by omega) (by rw [k2]; simp; omega) (by simp [hN]) k1 (fun j s' hj hj2 => ?_) h2
   rcases Nat.lt_or_ge j i with hlt | hge
   ·rw [k2, List.getElem?_append_left (by omega)] at hj2
    obtain ⟨nx, g1, g2, g3⟩ := hc j s' hlt hj2
    refine ⟨nx, by rw [List.getElem?_append_left (by omega)]; exact g1, g2, fun d k hk => ?_⟩
    obtain ⟨r, g4, g5⟩ := g3 d k hk
    exact ⟨r, by rw [k2, List.getElem?_append_left ((List.getElem?_eq_some_iff.1 g4).1)]; exact g4, g5⟩
   ·have e : j = i := by omega
    subst e
    rw [k2, List.getElem?_append_left hi', hs] at hj2
    cases hj2
    rw [List.nil_append] at k3
    subst k3
    refine ⟨q.2, by rw [← hN]; simp, k4, fun d k hk => ?_⟩
    have hd : d < 4 := by
     have := (List.getElem?_eq_some_iff.1 hk).1
     simp at k4
     omega
    refine k5 d d k ?_ hk
    match d, hd with
    | 0, _ => rfl
    | 1, _ => rfl
    | 2, _ => rfl
    | 3, _ => rfl
inductive BWay : α → α → Prop
 | here (x : α) : BWay x x
 | go {x y : α} (d : Nat) (hd : d < 4) (h : BWay x y) : BWay x (T d y)
theorem BInv.way {t : α} {L : List (BSt α)} (h : BInv T t L) : ∀ (k : Nat) (s : BSt α), L[k]? = some s → BWay T t s.x := by
 intro k
 induction k using Nat.strongRecOn with
 | _ k ih =>
  intro s hs
  rcases Nat.eq_zero_or_pos k with e | hk
  ·subst e
   obtain ⟨l, e⟩ := h.first
   rw [e] at hs
   cases hs
   exact .here t
  ·obtain ⟨j, b, h1, h2, h3, h4, h5, h6, h7⟩ := h.back k s hs hk
   rw [h4]
   exact .go _ h7 (ih j h2 b h3)
structure BSorted (L : List (BSt α)) (top : Nat) : Prop where
 up : ∀ (a b : Nat) (sa sb : BSt α), a ≤ b → L[a]? = some sa → L[b]? = some sb → sa.far ≤ sb.far
 top : ∀ (b : Nat) (sb : BSt α), L[b]? = some sb → sb.far ≤ top
theorem BSorted.one {L : List (BSt α)} {i d : Nat} {s : BSt α} (h : BSorted L (s.far + 1)) {p : List (BSt α) × Nat} (hp : bOne T L i s d = some p) : BSorted p.1 (s.far + 1) := by
 unfold bOne at hp
 split at hp
 ·cases hp
  exact h
 ·split at hp
  ·cases hp
  ·cases hp
   refine ⟨fun a b sa sb hab ha hb => ?_, fun b sb hb => ?_⟩
   ·rcases Nat.lt_trichotomy b L.length with hlt | heq | hgt
    ·rw [List.getElem?_append_left hlt] at hb
     rw [List.getElem?_append_left (by omega)] at ha
     exact h.up a b sa sb hab ha hb
    ·subst heq
     simp at hb
     subst hb
     rcases Nat.lt_or_ge a L.length with h1 | h1
     ·rw [List.getElem?_append_left h1] at ha
      exact h.top a sa ha
     ·have e : a = L.length := by omega
      subst e
      simp at ha
      subst ha
      exact Nat.le_refl _
    ·rw [List.getElem?_eq_none (by simp; omega)] at hb
     cases hb
   ·rcases Nat.lt_trichotomy b L.length with hlt | heq | hgt
    ·rw [List.getElem?_append_left hlt] at hb
     exact h.top b sb hb
    ·subst heq
     simp at hb
     subst hb
     exact Nat.le_refl _
    ·rw [List.getElem?_eq_none (by simp; omega)] at hb
     cases hb
theorem b_four_sorted {i : Nat} {s : BSt α} : ∀ (ds : List Nat) (L : List (BSt α)) (nx : List Nat) (p : List (BSt α) × List Nat), BSorted L (s.far + 1) → bFour T i s ds L nx = some p → BSorted p.1 (s.far + 1)
 | [], L, nx, p, h, hp => by
  cases hp
  exact h
 | d :: ds, L, nx, p, h, hp => by
  unfold bFour at hp
  obtain ⟨p1, h1, h2⟩ := Option.bind_eq_some_iff.1 hp
  exact b_four_sorted ds p1.1 _ p (h.one T h1) h2
theorem b_one_pre {L : List (BSt α)} {i d : Nat} {s : BSt α} {p : List (BSt α) × Nat} (hp : bOne T L i s d = some p) : ∃ l, p.1 = L ++ l := by
 unfold bOne at hp
 split at hp
 ·cases hp
  exact ⟨[], by simp⟩
 ·split at hp
  ·cases hp
  ·cases hp
   exact ⟨_, rfl⟩
theorem b_four_pre {i : Nat} {s : BSt α} : ∀ (ds : List Nat) (L : List (BSt α)) (nx : List Nat) (p : List (BSt α) × List Nat), bFour T i s ds L nx = some p → ∃ l, p.1 = L ++ l
 | [], L, nx, p, hp => by
  cases hp
  exact ⟨[], by simp⟩
 | d :: ds, L, nx, p, hp => by
  unfold bFour at hp
  obtain ⟨p1, h1, h2⟩ := Option.bind_eq_some_iff.1 hp
  obtain ⟨l1, e1⟩ := b_one_pre T h1
  obtain ⟨l2, e2⟩ := b_four_pre ds p1.1 _ p h2
  exact ⟨l1 ++ l2, by rw [e2, e1, List.append_assoc]⟩
theorem b_all_sorted : ∀ (m i : Nat) (L : List (BSt α)) (N : List (List Nat)) (p : List (BSt α) × List (List Nat)), (∀ s, L[i]? = some s → BSorted L (s.far + 1)) → (L[i]? = none → ∃ q, BSorted L q) → (m = 0 → ∃ q, BSorted L q) → bAll T m i L N = some p → ∃ q, BSorted p.1 q
 | 0, i, L, N, p, _, _, h0, hp => by
  cases hp
  exact h0 rfl
 | m + 1, i, L, N, p, hs, hn, _, hp => by
  unfold bAll at hp
  split at hp
  ·rename_i h
   cases hp
   exact hn h
  ·rename_i s h
   obtain ⟨q, h1, h2⟩ := Option.bind_eq_some_iff.1 hp
   have hq := b_four_sorted T _ L _ q (hs s h) h1
   obtain ⟨l, e⟩ := b_four_pre T _ L _ q h1
   have hi := (List.getElem?_eq_some_iff.1 h).1
   refine b_all_sorted m (i + 1) q.1 _ p (fun s' h' => ⟨hq.up, fun b sb hb => ?_⟩) (fun _ => ⟨_, hq⟩) (fun _ => ⟨_, hq⟩) h2
   have h3 : s.far ≤ s'.far := hq.up i (i + 1) s s' (by omega) (by rw [e, List.getElem?_append_left hi]; exact h) h'
   have := hq.top b sb hb
   omega
theorem b_all_up {t : α} {m : Nat} {p : List (BSt α) × List (List Nat)} (hp : bAll T m 0 [⟨t, 0, [], -1, 0⟩] [] = some p) : ∃ q, BSorted p.1 q := by
 have h : ∀ q, BSorted [(⟨t, 0, [], -1, 0⟩ : BSt α)] q := fun q => by
  have h0 : ∀ (a : Nat) (sa : BSt α), [(⟨t, 0, [], -1, 0⟩ : BSt α)][a]? = some sa → sa.far = 0 := fun a sa h => by
   cases a with
   | zero =>
    cases h
    rfl
   | succ a => simp at h
  refine ⟨fun a b sa sb _ ha hb => by rw [h0 a sa ha]; exact Nat.zero_le _, fun b sb hb => by rw [h0 b sb hb]; exact Nat.zero_le _⟩
 exact b_all_sorted T m 0 _ _ p (fun s _ => h _) (fun _ => ⟨0, h 0⟩) (fun _ => ⟨0, h 0⟩) hp
end
end Go.Proofs.YtchkmhbngbgjnaaGreatDoor.Q
end
section
namespace Go.Proofs.YtchkmhbngbgjnaaGreatDoor.Q
set_option linter.unusedSectionVars false
open Go.RowKit Go.Proofs.YtchkmhbngbgjnaaGreatDoorW.PrintWords Go.Proofs.YtchkmhbngbgjnaaGreatDoorW.PrintLast Go.Proofs.YtchkmhbngbgjnaaGreatDoorW.PrintMore
structure Zs where
 w : Int
 h : Int
 cs : List Int
 text : ByteArray
 far : Int
 words : Int
 before : Int
 dir : Int
 next : List Int
def zCells (z : Zs) (a b : Value) : Array Value := #[.int .i64 z.w, .int .i64 z.h, a, .string z.text, .int .i64 z.far, .int .i64 z.words, .int .i64 z.before, .int .i64 z.dir, b]
def ptK : Kd Nat := Kd.scalar (fun g => .pointer (some ⟨g, 0, none⟩)) (fun _ => rfl)
structure StC (w : World) (A : Option Addr) (L : List Zs) : Prop where
 at' : ∀ (i : Nat) (z : Zs), L[i]? = some z → ∃ (ad : Addr) (g : Nat) (Ag An : Option Addr) (cg cn : Nat), A = some ad ∧ w.cell? (ad.add i) = some (.pointer (some ⟨g, 0, none⟩)) ∧ w.heap[g]? = some (.cells (zCells z (.slice Ag z.cs.length cg) (.slice An z.next.length cn)) 47 (0, 0)) ∧
  (z.cs.length ≤ cg ∧ Kd.C (Kd.int .u8) w Ag z.cs.length z.cs) ∧ z.next.length ≤ cn ∧ Kd.C (Kd.int .i64) w An z.next.length z.next
structure Zm where
 g : Nat
 vg : Value
 vn : Value
 z : Zs
structure okZ (w : World) (B : Nat) (m : Zm) : Prop where
 base : B ≤ m.g
 blk : w.heap[m.g]? = some (.cells (zCells m.z m.vg m.vn) 47 (0, 0))
 grid : Kd.R (Kd.int .u8) 5 w B (fun _ => True) m.vg m.z.cs
 next : Kd.R (Kd.int .i64) 3 w B (fun _ => True) m.vn m.z.next
structure SB (w : World) (B : Nat) (v : Value) (M : List Zm) : Prop where
 row : Kd.R ptK 42 w B (fun _ => True) v (M.map Zm.g)
 ok : ∀ m ∈ M, okZ w B m
 nodup : (M.map Zm.g).Nodup
 apart : M.Pairwise fun a b => ∀ k, a.vn.ownBlock = some k → b.vn.ownBlock ≠ some k
theorem R_all {α : Type} {d : Kd α} {e base : Nat} {ok : Nat → Prop} {w : World} {v : Value} {xs : List α} (h : d.R e w base ok v xs) : d.R e w base (fun _ => True) v xs := Kd.R_mono h fun _ _ => trivial
section
variable {w w1 : World} {B : Nat} {v : Value} {M : List Zm} {m : Zm}
theorem okZ.below (h : okZ w B m) (hb : Below w.heap.size w w1) : okZ w1 B m := ⟨h.base, (hb.block m.g (blk_lt h.blk)).trans h.blk, Kd.R_below h.grid hb, Kd.R_below h.next hb⟩
theorem SB.below (h : SB w B v M) (hb : Below w.heap.size w w1) : SB w1 B v M := ⟨Kd.R_below h.row hb, fun m hm => (h.ok m hm).below hb, h.nodup, h.apart⟩
theorem okZ.turn (h : okZ w B m) {b : Option Nat} (hg : w.grownBy w1 b) (h0 : some m.g ≠ b) (h1 : ∀ k, m.vg.ownBlock = some k → some k ≠ b) (h2 : ∀ k, m.vn.ownBlock = some k → some k ≠ b) : okZ w1 B m :=
 ⟨h.base, blk_grown h.blk hg h0, R_all (Kd.R_grown (Kd.R_tight rfl h.grid) hg fun k hk => h1 k hk.symm), R_all (Kd.R_grown (Kd.R_tight rfl h.next) hg fun k hk => h2 k hk.symm)⟩
theorem own_type {α β : Type} {d : Kd α} {d' : Kd β} {e e' b b' : Nat} {ok ok' : Nat → Prop} {u v : Value} {xs : List α} {ys : List β} (h : d.R e w b ok u xs) (h' : d'.R e' w b' ok' v ys) (hne : e ≠ e') : ∀ k, u.ownBlock = some k → some k ≠ v.ownBlock := fun k hk he => by
 obtain ⟨i1, o1⟩ := Kd.R_own h
 obtain ⟨i2, o2⟩ := Kd.R_own h'
 obtain ⟨c1, e1⟩ := own_typed o1 k hk
 obtain ⟨c2, e2⟩ := own_typed o2 k he.symm
 rw [e1] at e2
 injection e2 with e2
 injection e2 with _ e2
 exact hne e2
theorem okZ.set (h : okZ w B m) {g j : Nat} {u : Value} {c : Array Value} (hb : w.heap[g]? = some (.cells c 47 (0, 0))) (hne : m.g ≠ g) : okZ (w.setCell ⟨g, j, none⟩ u) B m :=
 ⟨h.base, blk_far h.blk (p := ⟨g, j, none⟩) hne u, Kd.R_set h.grid hb (by decide) j u, Kd.R_set h.next hb (by decide) j u⟩
theorem SB.at (h : SB w B v M) {i : Nat} {m : Zm} (hm : M[i]? = some m) : okZ w B m := h.ok m (List.mem_of_getElem? hm)
theorem map_set (l : List Zm) (i : Nat) (m' : Zm) {m : Zm} (hm : l[i]? = some m) (hg : m'.g = m.g) : (l.set i m').map Zm.g = l.map Zm.g := by
 refine List.ext_getElem? fun j => ?_
 rw [List.getElem?_map, List.getElem?_map, List.getElem?_set]
 split
 ·rename_i e
  subst e
  split
  ·rw [hm]
   exact congrArg some hg
  ·rw [List.getElem?_eq_none (by omega)]
 ·rfl
theorem ne_of_nodup {l : List Zm} (h : (l.map Zm.g).Nodup) {i j : Nat} {a b : Zm} (ha : l[i]? = some a) (hb : l[j]? = some b) (hne : i ≠ j) : a.g ≠ b.g := by
 have hp := List.pairwise_iff_getElem.1 h
 obtain ⟨hi, rfl⟩ := List.getElem?_eq_some_iff.1 ha
 obtain ⟨hj, rfl⟩ := List.getElem?_eq_some_iff.1 hb
 rcases Nat.lt_or_gt_of_ne hne with hlt | hgt
 ·exact fun e => hp i j (by rw [List.length_map]; exact hi) (by rw [List.length_map]; exact hj) hlt (by rw [List.getElem_map, List.getElem_map]; exact e)
 ·exact fun e => hp j i (by rw [List.length_map]; exact hj) (by rw [List.length_map]; exact hi) hgt (by rw [List.getElem_map, List.getElem_map]; exact e.symm)
theorem apart_ne {l : List Zm} (h : l.Pairwise fun a b => ∀ k, a.vn.ownBlock = some k → b.vn.ownBlock ≠ some k) {i j : Nat} {a b : Zm} (ha : l[i]? = some a) (hb : l[j]? = some b) (hne : i ≠ j) : ∀ k, a.vn.ownBlock = some k → b.vn.ownBlock ≠ some k := by
 have hp := List.pairwise_iff_getElem.1 h
 obtain ⟨hi, rfl⟩ := List.getElem?_eq_some_iff.1 ha
 obtain ⟨hj, rfl⟩ := List.getElem?_eq_some_iff.1 hb
 rcases Nat.lt_or_gt_of_ne hne with hlt | hgt
 ·exact hp i j hi hj hlt
 ·exact fun k h1 h2 => hp j i hj hi hgt k h2 h1
theorem SB.put (h : SB w B v M) {i : Nat} {m m' : Zm} (hm : M[i]? = some m) (j : Nat) (u : Value) (hg : m'.g = m.g) (hv : m'.vn = m.vn) (hok : okZ (w.setCell ⟨m.g, j, none⟩ u) B m') : SB (w.setCell ⟨m.g, j, none⟩ u) B v (M.set i m') where
 row := by
  rw [map_set M i m' hm hg]
  exact Kd.R_set h.row (h.at hm).blk (by decide) j u
 ok := fun x hx => by
  obtain ⟨q, hq⟩ := List.getElem?_of_mem hx
  rw [List.getElem?_set] at hq
  split at hq
  ·rename_i e
   split at hq
   ·cases hq
    exact hok
   ·cases hq
  ·rename_i e
   exact (h.at hq).set (h.at hm).blk (ne_of_nodup h.nodup hq hm fun e2 => e e2.symm)
 nodup := by
  rw [map_set M i m' hm hg]
  exact h.nodup
 apart := List.pairwise_iff_getElem.2 fun a b ha hb hab => by
  have hp := List.pairwise_iff_getElem.1 h.apart
  rw [List.length_set] at ha hb
  have e : ∀ q (hq : q < M.length), ((M.set i m')[q]'(by rw [List.length_set]; exact hq)).vn = M[q].vn := fun q hq => by
   rw [List.getElem_set]
   split
   ·rename_i e
    subst e
    rw [hv]
    obtain ⟨_, e2⟩ := List.getElem?_eq_some_iff.1 hm
    rw [e2]
   ·rfl
  rw [e a ha, e b hb]
  exact hp a b ha hb hab
theorem SB.read (h : SB w B v M) : ∃ A c, v = .slice A M.length c ∧ M.length ≤ c ∧ StC w A (M.map Zm.z) ∧ ∀ (i : Nat) (m : Zm), M[i]? = some m → ∃ ad, A = some ad ∧ w.cell? (ad.add i) = some (.pointer (some ⟨m.g, 0, none⟩)) := by
 obtain ⟨A, c, hv, hc, hC⟩ := Kd.R_reads h.row
 rw [List.length_map] at hv hc hC
 have key : ∀ (i : Nat) (m : Zm), M[i]? = some m → ∃ ad, A = some ad ∧ w.cell? (ad.add i) = some (.pointer (some ⟨m.g, 0, none⟩)) := fun i m hm => by
  have hi := (List.getElem?_eq_some_iff.1 hm).1
  obtain ⟨ad, c1, e1, hl1, hk1, hg1⟩ := Kd.C_get hC 0 (i : Int) (by omega) (by omega)
  refine ⟨ad, e1, ?_⟩
  have h0 : c1 = [.pointer (some ⟨(M.map Zm.g).getD i 0, 0, none⟩)] := by simpa [ptK, Kd.scalar] using hk1
  subst h0
  have := hg1 0 _ rfl
  rw [Int.toNat_natCast] at this
  simp only [ptK, Kd.scalar, Nat.mul_one, Nat.add_zero] at this
  rw [this, List.getD_eq_getElem?_getD, List.getElem?_map, hm]
  rfl
 refine ⟨A, c, hv, hc, ⟨fun i z hz => ?_⟩, key⟩
 rw [List.getElem?_map] at hz
 obtain ⟨m, hm, rfl⟩ := Option.map_eq_some_iff.1 hz
 have hk := h.at hm
 obtain ⟨ad, e1, h2⟩ := key i m hm
 obtain ⟨Ag, cg, eg, hlg, hCg⟩ := Kd.R_reads hk.grid
 obtain ⟨An, cn, en, hln, hCn⟩ := Kd.R_reads hk.next
 exact ⟨ad, m.g, Ag, An, cg, cn, e1, h2, by rw [← eg, ← en]; exact hk.blk, ⟨hlg, hCg⟩, hln, hCn⟩
theorem SB.grow (h : SB w B v M) {i : Nat} (hm : M[i]? = some m) {v1 : Value} {ys : List Int} (hg : w.grownBy w1 m.vn.ownBlock) (hat : v1.ownBlock = m.vn.ownBlock ∨ ∃ b, v1.ownBlock = some b ∧ w.heap.size ≤ b) (hr : Kd.R (Kd.int .i64) 3 w1 B (fun _ => True) v1 ys) :
  SB (w1.setCell ⟨m.g, 8, none⟩ v1) B v (M.set i { m with vn := v1, z := { m.z with next := ys } }) := by
 have hk := h.at hm
 have hb1 : w1.heap[m.g]? = some (.cells (zCells m.z m.vg m.vn) 47 (0, 0)) := blk_grown hk.blk hg (Kd.R_ne hk.next hk.blk (by decide))
 have hrow : Kd.R ptK 42 w1 B (fun _ => True) v (M.map Zm.g) := R_all (Kd.R_grown (Kd.R_tight rfl h.row) hg fun k hk2 => own_type h.row hk.next (by decide) k hk2.symm)
 refine ⟨?_, fun x hx => ?_, ?_, ?_⟩
 ·rw [map_set M i { m with vn := v1, z := { m.z with next := ys } } hm rfl]
  exact Kd.R_set hrow hb1 (by decide) 8 v1
 ·obtain ⟨q, hq⟩ := List.getElem?_of_mem hx
  rw [List.getElem?_set] at hq
  split at hq
  ·split at hq
   ·cases hq
    exact ⟨hk.base, blk_put hb1 8 v1 rfl, Kd.R_set (R_all (Kd.R_grown (Kd.R_tight rfl hk.grid) hg fun k hk2 => own_type hk.grid hk.next (by decide) k hk2.symm)) hb1 (by decide) 8 v1, Kd.R_set hr hb1 (by decide) 8 v1⟩
   ·cases hq
  ·rename_i e
   have hq2 := h.at hq
   exact (hq2.turn hg (Kd.R_ne hk.next hq2.blk (by decide)) (own_type hq2.grid hk.next (by decide)) fun k h1 h2 => apart_ne h.apart hq hm (fun e2 => e e2.symm) k h1 h2.symm).set hb1 (ne_of_nodup h.nodup hq hm fun e2 => e e2.symm)
 ·rw [map_set M i { m with vn := v1, z := { m.z with next := ys } } hm rfl]
  exact h.nodup
 ·have key : ∀ (q : Nat) (x : Zm), M[q]? = some x → q ≠ i → ∀ k, v1.ownBlock = some k → x.vn.ownBlock ≠ some k := fun q x hq hne k h1 h2 => by
   rcases hat with e | ⟨b, e, hle⟩
   ·rw [e] at h1
    exact apart_ne h.apart hm hq (fun e2 => hne e2.symm) k h1 h2
   ·rw [e] at h1
    cases h1
    have := Kd.R_lt (h.at hq).next _ h2
    omega
  refine List.pairwise_iff_getElem.2 fun a b ha hb hab k h1 h2 => ?_
  have hp := List.pairwise_iff_getElem.1 h.apart
  rw [List.length_set] at ha hb
  rw [List.getElem_set] at h1 h2
  split at h1
  ·rename_i e
   subst e
   rw [if_neg (by omega)] at h2
   exact key b _ (List.getElem?_eq_getElem hb) (by omega) k h1 h2
  ·split at h2
   ·rename_i e2
    subst e2
    exact key a _ (List.getElem?_eq_getElem ha) (by omega) k h2 h1
   ·exact hp a b ha hb hab k h1 h2
theorem SB.add (h : SB w B v M) (hm : okZ w B m) (hn : ∀ x ∈ M, x.g ≠ m.g) (h0 : m.vn.ownBlock = none) {v1 : Value} (hg : w.grownBy w1 v.ownBlock) (hr : Kd.R ptK 42 w1 B (fun _ => True) v1 ((M ++ [m]).map Zm.g)) : SB w1 B v1 (M ++ [m]) where
 row := hr
 ok := fun x hx => by
  have hx2 : okZ w B x := by
   rcases List.mem_append.1 hx with hx | hx
   ·exact h.ok x hx
   ·rw [List.mem_singleton.1 hx]
    exact hm
  exact hx2.turn hg (Kd.R_ne h.row hx2.blk (by decide)) (own_type hx2.grid h.row (by decide)) (own_type hx2.next h.row (by decide))
 nodup := by
  rw [List.map_append, List.nodup_append]
  refine ⟨h.nodup, by simp, fun a ha b hb e => ?_⟩
  simp at hb
  obtain ⟨x, hx, rfl⟩ := List.mem_map.1 ha
  exact hn x hx (e.trans hb)
 apart := by
  rw [List.pairwise_append]
  refine ⟨h.apart, List.pairwise_singleton _ _, fun a _ b hb k h1 h2 => ?_⟩
  rw [List.mem_singleton.1 hb, h0] at h2
  cases h2
end
end Go.Proofs.YtchkmhbngbgjnaaGreatDoor.Q
end
section
namespace Go.Proofs.YtchkmhbngbgjnaaGreatDoor.Q
set_option linter.unusedSectionVars false
open Go.RowKit Go.Proofs.YtchkmhbngbgjnaaGreatDoorW.PrintWords Go.Proofs.YtchkmhbngbgjnaaGreatDoorW.PrintLast Go.Proofs.YtchkmhbngbgjnaaGreatDoorW.PrintMore
noncomputable def PE : Value → Option (DataW Unit × List MemPlace) := plainElem Tryz.prog 3
theorem keyI : Maps.Keyed Tryz.prog 3 := Maps.int_keyed Tryz.underlying3
def lk (x : Int) : Lit := .int .i64 x
theorem lk_wf {x : Int} (h0 : 0 ≤ x) (h1 : x ≤ 1000000) : (Lit.int .i64 x).wf = true := by
 unfold Lit.wf
 rw [Bool.and_eq_true]
 exact ⟨decide_eq_true (Int.le_trans (by decide) h0), decide_eq_true (Int.le_trans h1 (by decide))⟩
theorem lk_key (x : Int) : WideAt.IsKeyLit (lk x) := by simp [WideAt.IsKeyLit, lk]
theorem lk_ne {x y : Int} (h : x ≠ y) : lk x ≠ lk y := fun e => h (by injection e)
structure Holds (D : DataW Unit) (f : Int → Option Int) : Prop where
 map : Maps.IsMap D
 at' : ∀ (x : Int) (z : DataW Unit), D.atKey (lk x) z = match f x with | some c => .lit (lk c) | none => z
 has' : ∀ x : Int, Maps.has D (lk x) = (f x).isSome
theorem Holds.made : Holds (.map []) fun _ => none := ⟨Maps.isMap_empty, fun _ _ => rfl, fun _ => rfl⟩
def upd (f : Int → Option Int) (k v : Int) : Int → Option Int := fun x => if x = k then some v else f x
theorem Holds.put {D : DataW Unit} {f : Int → Option Int} (h : Holds D f) (k v : Int) : Holds (D.put (lk k) (.lit (lk v))) (upd f k v) := by
 refine ⟨h.map.put _ _, fun x z => ?_, fun x => ?_⟩
 ·unfold upd
  by_cases e : x = k
  ·rw [if_pos e, e, Maps.atKey_put_same h.map (lk_key k)]
  ·rw [if_neg e, Maps.atKey_put_other (lk_ne e), h.at']
 ·unfold upd
  by_cases e : x = k
  ·rw [if_pos e, e, Maps.has_put_same h.map (lk_key k)]
   rfl
  ·rw [if_neg e, Maps.has_put_other (lk_ne e), h.has']
def MP (w : World) (b n : Nat) (f : Int → Option Int) : Prop := ∃ D : DataW Unit, w.ownsMap Tryz.prog 3 PE b n D ∧ Holds D f
theorem MP.made (w : World) : MP (w.alloc (.map #[] 0)) w.heap.size 0 fun _ => none := ⟨_, World.ownsMap_made w _ _ _, Holds.made⟩
theorem MP.kept {w w' : World} {b n : Nat} {f : Int → Option Int} {row : Option Nat} (h : MP w b n f) (hg : w.grownBy w' row) (hne : some b ≠ row) : MP w' b n f := by
 obtain ⟨D, h1, h2⟩ := h
 exact ⟨D, h1.kept hg hne, h2⟩
theorem MP.below {w w' : World} {b n : Nat} {f : Int → Option Int} (h : MP w b n f) (hb : Below w.heap.size w w') : MP w' b n f := h.kept (grown_of_below hb none) (by simp)
def NC (w : World) (r : Nat) : Prop := ∀ (c : Array Value) (q : Nat) (z : Nat × Nat), w.heap[r]? ≠ some (.cells c q z)
theorem R_turn {α : Type} {d : Kd α} {e base : Nat} {ok : Nat → Prop} {w w1 : World} {v : Value} {xs : List α} (h : Kd.R d e w base ok v xs) {r : Nat} (hg : w.grownBy w1 (some r)) (hn : NC w r) : Kd.R d e w1 base ok v xs :=
 Kd.R_mono (Kd.R_move (Kd.R_bound h) (fun k hk => hg.block k hk.2.2.1 (by
  rintro e
  cases e
  obtain ⟨_, _, _, q, _, cells, hc⟩ := hk
  exact hn _ _ _ hc))) (fun _ hk => hk.1)
theorem blk_turn {w w1 : World} {g r q : Nat} {c : Array Value} {z : Nat × Nat} (h : w.heap[g]? = some (.cells c q z)) (hg : w.grownBy w1 (some r)) (hn : NC w r) : w1.heap[g]? = some (.cells c q z) := by
 refine blk_grown h hg ?_
 rintro e
 cases e
 exact hn _ _ _ h
theorem MP.nc {w : World} {b n : Nat} {f : Int → Option Int} (h : MP w b n f) : NC w b := by
 obtain ⟨D, ⟨es, clock, hb, _⟩, _⟩ := h
 intro c q z e
 rw [hb] at e
 cases e
theorem ranges_nc {w : World} {b r n cnt : Nat} {D : DataW Unit} {left : Lit → Bool} (h : w.ranges Tryz.prog 3 PE b r n D left cnt) : NC w r := by
 obtain ⟨es, clock, since, seen, c0, hb, _, _, _, hr, _⟩ := h
 intro c q z e
 rw [hr] at e
 cases e
theorem ranges_set {w : World} {b r n cnt : Nat} {D : DataW Unit} {left : Lit → Bool} (h : w.ranges Tryz.prog 3 PE b r n D left cnt) {g : Nat} (h1 : b ≠ g) (h2 : r ≠ g) (i : Nat) (v : Value) : (w.setCell ⟨g, i, none⟩ v).ranges Tryz.prog 3 PE b r n D left cnt := by
 obtain ⟨es, clock, since, seen, c0, hb, F, hs, hD, hr, rest⟩ := h
 exact ⟨es, clock, since, seen, c0, (Below.heap_setCell w ⟨g, i, none⟩ v b h1).trans hb, F, hs, hD, (Below.heap_setCell w ⟨g, i, none⟩ v r h2).trans hr, rest⟩
theorem ranges_drew {w : World} {b r n cnt : Nat} {D : DataW Unit} {left : Lit → Bool} (h : w.ranges Tryz.prog 3 PE b r n D left cnt) : w.drew.ranges Tryz.prog 3 PE b r n D left cnt := h
theorem ranges_mnc {w : World} {b r n cnt : Nat} {D : DataW Unit} {left : Lit → Bool} (h : w.ranges Tryz.prog 3 PE b r n D left cnt) : NC w b := by
 obtain ⟨es, clock, since, seen, c0, hb, _⟩ := h
 intro c q z e
 rw [hb] at e
 cases e
theorem R_nc {α : Type} {d : Kd α} {e base n c : Nat} {ok : Nat → Prop} {w : World} {g : Nat} {xs : List α} (h : Kd.R d e w base ok (.slice (some ⟨g, 0, none⟩) n c) xs) {r : Nat} (hn : NC w r) : r ≠ g := by
 rintro rfl
 obtain ⟨_, _, _, q, _, cells, hc⟩ := (Kd.R_bound h).1 _ rfl
 exact hn _ _ _ hc
theorem blk_nc {w : World} {g r q : Nat} {c : Array Value} {z : Nat × Nat} (h : w.heap[g]? = some (.cells c q z)) (hn : NC w r) : r ≠ g := by
 rintro rfl
 exact hn _ _ _ h
theorem below_none {W W1 : World} (hg : W.grownBy W1 none) : Below W.heap.size W W1 := (Below.refl _ W).grown hg (Nat.le_refl _) (fun _ h => by cases h)
theorem pe_int {c : Int} (hw : (Lit.int .i64 c).wf = true) : PE (.int .i64 c) = some (.lit (lk c), []) := plainElem_int Tryz.underlying3 hw
end Go.Proofs.YtchkmhbngbgjnaaGreatDoor.Q
end
section
namespace Go.Proofs.YtchkmhbngbgjnaaGreatDoor.Q
set_option linter.unusedSectionVars false
open Go.RowKit Go.Proofs.YtchkmhbngbgjnaaGreatDoorW.PrintWords Go.Proofs.YtchkmhbngbgjnaaGreatDoorW.PrintLast Go.Proofs.YtchkmhbngbgjnaaGreatDoorW.PrintMore
theorem keyS : Maps.Keyed Tryz.prog 9 := Maps.string_keyed Tryz.underlying9
structure HoldsS (D : DataW Unit) (f : List UInt8 → Option Int) : Prop where
 map : Maps.IsMap D
 at' : ∀ (x : List UInt8) (z : DataW Unit), D.atKey (.string x) z = match f x with | some c => .lit (lk c) | none => z
 has' : ∀ x : List UInt8, Maps.has D (.string x) = (f x).isSome
theorem HoldsS.made : HoldsS (.map []) fun _ => none := ⟨Maps.isMap_empty, fun _ _ => rfl, fun _ => rfl⟩
def updS (f : List UInt8 → Option Int) (k : List UInt8) (v : Int) : List UInt8 → Option Int := fun x => if x = k then some v else f x
theorem HoldsS.put {D : DataW Unit} {f : List UInt8 → Option Int} (h : HoldsS D f) (k : List UInt8) (v : Int) : HoldsS (D.put (.string k) (.lit (lk v))) (updS f k v) := by
 have hk : WideAt.IsKeyLit (.string k) := by simp [WideAt.IsKeyLit]
 refine ⟨h.map.put _ _, fun x z => ?_, fun x => ?_⟩
 ·unfold updS
  by_cases e : x = k
  ·rw [if_pos e, e, Maps.atKey_put_same h.map hk]
  ·rw [if_neg e, Maps.atKey_put_other (fun e2 => e (by injection e2)), h.at']
 ·unfold updS
  by_cases e : x = k
  ·rw [if_pos e, e, Maps.has_put_same h.map hk]
   rfl
  ·rw [if_neg e, Maps.has_put_other (fun e2 => e (by injection e2)), h.has']
def MPS (w : World) (b n : Nat) (f : List UInt8 → Option Int) : Prop := ∃ D : DataW Unit, w.ownsMap Tryz.prog 9 PE b n D ∧ HoldsS D f
theorem MPS.made (w : World) : MPS (w.alloc (.map #[] 0)) w.heap.size 0 fun _ => none := ⟨_, World.ownsMap_made w _ _ _, HoldsS.made⟩
theorem MPS.lt {w : World} {b n : Nat} {f : List UInt8 → Option Int} (h : MPS w b n f) : b < w.heap.size := by
 obtain ⟨D, h1, _⟩ := h
 exact h1.lt
theorem MPS.kept {w w' : World} {b n : Nat} {f : List UInt8 → Option Int} {row : Option Nat} (h : MPS w b n f) (hg : w.grownBy w' row) (hne : some b ≠ row) : MPS w' b n f := by
 obtain ⟨D, h1, h2⟩ := h
 exact ⟨D, h1.kept hg hne, h2⟩
theorem MPS.below {w w' : World} {b n : Nat} {f : List UInt8 → Option Int} (h : MPS w b n f) (hb : Below w.heap.size w w') : MPS w' b n f := h.kept (grown_of_below hb none) (by simp)
theorem MPS.set {w : World} {b n g : Nat} {f : List UInt8 → Option Int} (h : MPS w b n f) (hne : b ≠ g) (i : Nat) (v : Value) : MPS (w.setCell ⟨g, i, none⟩ v) b n f := by
 obtain ⟨D, ⟨es, clock, hb, r⟩, h2⟩ := h
 refine ⟨D, ⟨es, clock, ?_, r⟩, h2⟩
 rw [← hb]
 exact Below.heap_setCell w ⟨g, i, none⟩ v b hne
theorem MPS.nc {w : World} {b n : Nat} {f : List UInt8 → Option Int} (h : MPS w b n f) : NC w b := by
 obtain ⟨D, ⟨es, clock, hb, _⟩, _⟩ := h
 intro c q z e
 rw [hb] at e
 cases e
theorem zeroIS (w : World) : (zeroValue 3).run Tryz.prog w = .ok (.int .i64 0) w := by kernel_rfl
theorem wpList_puts {P : Program} {ops : Array Oper} {rest : List Oper} {o : Oper} {a : Act} {Q : Exit → Act → World → Prop} (hP : P = Tryz.prog) (w : World) (hg : o.guard = none) (m x v : Operand) (t : TypeId) (hop : o.op = .mapUpdate t m x v) (ht : Tryz.prog.underlying t = some (.map 9 3))
  (b n : Nat) (f : List UInt8 → Option Int) (h : MPS w b n f) (hn : n < 1000000) (kx : ByteArray) (c : Int) (hm : a.eval m = .map (some b)) (hx : a.eval x = .string kx) (hv : a.eval v = .int .i64 c) (hb : kx.size ≤ maxLen ∧ 0 ≤ c ∧ c ≤ 1000000)
  (hK : ∀ w', MPS w' b (n + 1) (updS f kx.data.toList c) → w.grownBy w' (some b) → wpList P ops Q rest (a.put o.dst undef) w') : wpList P ops Q (o :: rest) a w := by
 subst hP
 obtain ⟨D, hown, hh⟩ := h
 exact wpList_mapUpdate_own w hg m x v t hop 9 3 keyS ht PE b n D hm hown (by unfold maxLen; omega) _ _ (.string kx.data.toList) hx hv (Go.WideMaps.keyOf_string_mk Tryz.underlying9 hb.1) (.lit (lk c)) [] (pe_int (lk_wf hb.2.1 hb.2.2)) fun w' h1 h2 => hK w' ⟨_, h1, hh.put kx.data.toList c⟩ h2
theorem wpList_looks {P : Program} {ops : Array Oper} {rest : List Oper} {o : Oper} {a : Act} {Q : Exit → Act → World → Prop} (hP : P = Tryz.prog) (w : World) (hg : o.guard = none) (m x : Operand) (t : TypeId) (hop : o.op = .lookup t m x true) (ht : Tryz.prog.underlying t = some (.map 9 3))
  (b n : Nat) (f : List UInt8 → Option Int) (h : MPS w b n f) (kx : ByteArray) (hm : a.eval m = .map (some b)) (hx : a.eval x = .string kx) (hb : kx.size ≤ maxLen)
  (hK : wpList P ops Q rest (a.put o.dst (.tuple #[.int .i64 ((f kx.data.toList).getD 0), .bool (f kx.data.toList).isSome])) w) : wpList P ops Q (o :: rest) a w := by
 subst hP
 obtain ⟨D, hown, hh⟩ := h
 refine wpList_lookup_own_ok_int w hg m x t hop 9 3 .i64 keyS ht Tryz.underlying3 (zeroIS w) b n D hm hown _ (.string kx.data.toList) hx (Go.WideMaps.keyOf_string_mk Tryz.underlying9 hb) fun c hat _ => ?_
 have hc : c = (f kx.data.toList).getD 0 := by
  rw [hh.at'] at hat
  cases e : f kx.data.toList with
  | none =>
   rw [e] at hat
   exact (congrArg (fun d : DataW Unit => match d with | .lit (.int _ c) => c | _ => 0) hat).symm
  | some c' =>
   rw [e] at hat
   exact (congrArg (fun d : DataW Unit => match d with | .lit (.int _ c) => c | _ => 0) hat).symm
 rw [hc, hh.has']
 exact hK
end Go.Proofs.YtchkmhbngbgjnaaGreatDoor.Q
end
section
namespace Go.Proofs.YtchkmhbngbgjnaaGreatDoor.Q
open Go.RowKit Go.Shelf Go.Proofs.YtchkmhbngbgjnaaGreatDoorW.PrintWords Go.Proofs.YtchkmhbngbgjnaaGreatDoorW.PrintLast Go.Proofs.YtchkmhbngbgjnaaGreatDoorW.PrintMore
theorem bytes_at {w : World} {A : Option Addr} {l : List Int} (h : Kd.C (Kd.int .u8) w A l.length l) (h0 : 1 ≤ l.length) : ∃ b off, A = some ⟨b, off, none⟩ ∧ b < w.heap.size ∧ ∀ j, j < l.length → w.cell? ⟨b, off + j, none⟩ = some (.int .u8 (l.getD j 0)) := by
 obtain ⟨ad, rfl, _⟩ := Kd.at_int h 0 (by omega) (by omega)
 have hx : ∀ j : Nat, j < l.length → w.cell? (ad.add j) = some (.int .u8 (l.getD j 0)) := fun j hj => by
  obtain ⟨ad2, e2, h2⟩ := Kd.at_int h (j : Int) (by omega) (by omega)
  cases e2
  rw [Int.toNat_natCast] at h2
  rw [h2]
  unfold rd
  rw [Int.toNat_natCast]
 have h00 := hx 0 (by omega)
 have hsp : ad.spot = none := by
  rcases hs : ad.spot with _ | z
  ·rfl
  ·rw [Addr.add, if_pos rfl] at h00
   unfold World.cell? at h00
   split at h00
   ·rw [hs] at h00
    simp at h00
   ·cases h00
 obtain ⟨bk, o, sp⟩ := ad
 obtain rfl : sp = none := hsp
 refine ⟨bk, o, rfl, ?_, fun j hj => ?_⟩
 ·have := World.block_lt_of_cell? _ _ h00
  rw [Addr.add, if_pos rfl] at this
  exact this
 ·have h2 := hx j hj
  rw [Addr.add] at h2
  split at h2
  ·rename_i hz
   subst hz
   exact h2
  ·exact h2
end Go.Proofs.YtchkmhbngbgjnaaGreatDoor.Q
end
section
namespace Go.Proofs.YtchkmhbngbgjnaaGreatDoor.Q
open Go.RowKit Go.Shelf Go.Proofs.YtchkmhbngbgjnaaGreatDoorW.PrintWords Go.Proofs.YtchkmhbngbgjnaaGreatDoorW.PrintLast Go.Proofs.YtchkmhbngbgjnaaGreatDoorW.PrintMore
attribute [local go_sem] Oper.semAt_some
def Kp2 (s3 s4 : Nat) (W W' : World) : Prop := W'.heap[s3]? = W.heap[s3]? ∧ W'.heap[s4]? = W.heap[s4]?
theorem Kp2.trans {s3 s4 : Nat} {A B C : World} (h : Kp2 s3 s4 A B) (k : Kp2 s3 s4 B C) : Kp2 s3 s4 A C := ⟨k.1.trans h.1, k.2.trans h.2⟩
theorem Kp2.refl {s3 s4 : Nat} {A : World} : Kp2 s3 s4 A A := ⟨rfl, rfl⟩
theorem range_snoc (k : Nat) : List.range (k + 1) = List.range k ++ [k] := List.range_succ
set_option maxRecDepth 100000 in
set_option maxHeartbeats 4000000 in
theorem chunk1_in (F : Fence) (n : Nat) (hf : F.fn 96) (hro : F.round = none) (hn : 1 ≤ n) (l Bs Bn b off len cap c m : Nat) (hc1 : 1 ≤ c) (hlen : len = m * c) (hsm : len ≤ 1000) (hcap : len ≤ cap) (J Jx : List Nat → World → Prop)
  (hJd : ∀ s W, J s W → J s W.drew)
  (hY : ∀ pre x W, J pre W → x < m → pre.length < m → YieldAt F (n - 1) Tryz.prog l #[.slice (some ⟨b, off + x * c, none⟩) c c] W fun e W' =>
   (e = .returned (.bool true) ∧ J (pre ++ [x]) W' ∧ Kp2 Bs Bn W W') ∨ (e = .returned (.bool false) ∧ Jx (pre ++ [x]) W'))
  (W : World) (hBs : W.heap[Bs]? = some (.cells #[.slice (some ⟨b, off, none⟩) len cap] 43 (0, 0))) (hBn : W.heap[Bn]? = some (.cells #[.int .i64 c] 3 (0, 0))) (h0 : J [] W) :
  CallsIn F n Tryz.prog 96 #[.func (.yield l) #[] #[], .pointer (some ⟨Bs, 0, none⟩), .pointer (some ⟨Bn, 0, none⟩)] W fun e W' => (∃ v, e = .returned v) ∧
   ((∃ ys, ys = List.range m ∧ J ys W') ∨ (∃ pre, (∃ k, k ≤ m ∧ pre = List.range k) ∧ Jx pre W')) := by
 refine callsIn_of_wp Tryz.func96 rfl hf ?_ hro
 simp only [Tryz.ntmps96, List.size_toArray, List.length_cons, List.length_nil, Nat.reduceAdd, Nat.reduceSub, Array.replicate_succ, Array.replicate_zero, List.push_toArray, List.append_toArray, List.nil_append, List.cons_append]
 gi_wp2
 have HL := Aside0.mk hlen
 clear hlen
 gi_loopw [4] (fun i wr => ∃ k q : Nat, Aside0 (k ≤ m ∧ q = k * c) ∧ i = .int .i64 (q : Int) ∧ J (List.range k) wr ∧ Kp2 Bs Bn W wr)
  (fun i _ => len - (intOf i).toNat)
 case atStart => exact ⟨0, 0, ⟨Nat.zero_le _, by simp⟩, by simp, h0, Kp2.refl⟩
 case round =>
  obtain ⟨k, q, HK, rfl, hJs, hnx⟩ := hrel
  have hs := hnx.1.trans hBs
  have hnn := hnx.2.trans hBn
  have cs : wr.cell? ⟨Bs, 0, none⟩ = some (.slice (some ⟨b, off, none⟩) len cap) := (blk_cell hs 0).trans rfl
  have cn : wr.cell? ⟨Bn, 0, none⟩ = some (.int .i64 c) := (blk_cell hnn 0).trans rfl
  by_cases hlt : k < m
  ·have hkc : q + c ≤ len := by rw [HL.out, HK.out.2, ← Nat.succ_mul]; exact Nat.mul_le_mul_right c hlt
   have c1 : decide ((q : Int) < (len : Int)) = true := decide_eq_true (by omega)
   have hmx : Tryz.prog.follows .mixedOrders = true := by kernel_rfl
   obtain ⟨fn, tmps, assign, body, hy, hR⟩ := hY _ k wr.drew (hJd _ _ hJs) hlt (by rw [List.length_range]; exact hlt)
   rw [← HK.out.2] at hy
   have hm1 : min (c : Int) ((len - q : Nat) : Int) = (c : Int) := by omega
   have hm2 : ((q : Int) + (c : Int)).toNat - q = c := by omega
   have hm3 : cap ≠ q := by omega
   have HKC := Aside0.mk hkc
   have HR := Aside0.mk hR
   clear hs hnn hJs hkc hR hY
   gi_wp2
   gi_region
   all_goals gi_wp2
   all_goals (try go_bits)
   all_goals
    refine HR.out.mono ?_
    rintro e W3 (⟨rfl, hJ3, hk3⟩ | ⟨rfl, hJx3⟩)
    ·have hnx3 : Kp2 Bs Bn W W3 := hnx.trans hk3
     have cn3 : W3.cell? ⟨Bn, 0, none⟩ = some (.int .i64 c) := (blk_cell (hnx3.2.trans hBn) 0).trans rfl
     gi_wp2
     go_roundw
     case rel => exact ⟨k + 1, q + c, ⟨by omega, by rw [HK.out.2, Nat.succ_mul]⟩, by simp, by rw [range_snoc]; exact hJ3, hnx3⟩
     case measure =>
      have := HKC.out
      simp [intOf]
      omega
    ·gi_wp2
     refine bodyPost_ret (results_none rfl _ _ _) rfl ?_
     exact ⟨⟨_, rfl⟩, .inr ⟨_, ⟨k + 1, by omega, (range_snoc k).symm⟩, hJx3⟩⟩
  ·have hkm : k = m := by have := HK.out.1; omega
   subst hkm
   have hql : q = len := by rw [HL.out, HK.out.2]
   subst hql
   have c1 : decide ((q : Int) < (q : Int)) = false := decide_eq_false (by omega)
   gi_wp2
   go_end0
   exact ⟨⟨_, rfl⟩, .inl ⟨_, rfl, hJs⟩⟩
end Go.Proofs.YtchkmhbngbgjnaaGreatDoor.Q
end
section
namespace Go.Proofs.YtchkmhbngbgjnaaGreatDoor.Q
open Go.RowKit Go.Shelf Go.Proofs.YtchkmhbngbgjnaaGreatDoorW.PrintWords Go.Proofs.YtchkmhbngbgjnaaGreatDoorW.PrintLast Go.Proofs.YtchkmhbngbgjnaaGreatDoorW.PrintMore
attribute [local go_sem] Oper.semAt_some
set_option maxRecDepth 100000 in
set_option maxHeartbeats 4000000 in
theorem chunk_in (F : Fence) (n : Nat) (hf : F.fn 71) (hro : F.round = none) (A : Option Addr) (len cap : Nat) (c : Int) (hc : 1 ≤ c) (w : World) :
  CallsIn F n Tryz.prog 71 #[.slice A len cap, .int .i64 c] w fun e w' => e = .returned (.func (.func 96) #[] #[.pointer (some ⟨w.heap.size, 0, none⟩), .pointer (some ⟨w.heap.size + 1, 0, none⟩)]) ∧
   w' = (w.alloc (.cells #[.slice A len cap] 43)).alloc (.cells #[.int .i64 c] 3) := by
 refine callsIn_of_wp Tryz.func71 rfl hf ?_ hro
 simp only [Tryz.ntmps71, List.size_toArray, List.length_cons, List.length_nil, Nat.reduceAdd, Nat.reduceSub, Array.replicate_succ, Array.replicate_zero, List.push_toArray, List.append_toArray, List.nil_append, List.cons_append]
 have c1 : decide (c < 1) = false := decide_eq_false (by omega)
 gi_wp2
 go_ret
 exact ⟨rfl, rfl⟩
theorem chunk_stops (F : Fence) (n : Nat) (hf : F.fn 96) (hro : F.round = none) (hn : 1 ≤ n) (Bs Bn b off len cap c m : Nat) (hc1 : 1 ≤ c) (hlen : len = m * c) (hsm : len ≤ 1000) (hcap : len ≤ cap) (w : World)
  (hBs : w.heap[Bs]? = some (.cells #[.slice (some ⟨b, off, none⟩) len cap] 43 (0, 0))) (hBn : w.heap[Bn]? = some (.cells #[.int .i64 c] 3 (0, 0))) :
  SeqStopsK F n Tryz.prog 96 #[.pointer (some ⟨Bs, 0, none⟩), .pointer (some ⟨Bn, 0, none⟩)] (fun x : Fin m => #[Value.slice (some ⟨b, off + x.val * c, none⟩) c c]) (Kp2 Bs Bn) (fun ys => ys.map Fin.val = List.range m) (fun _ => True) m w := fun l J Jx W hW hJ _ hY h0 => by
 refine (chunk1_in F n hf hro hn l Bs Bn b off len cap c m hc1 hlen hsm hcap (fun pre W => ∃ ys : List (Fin m), ys.map Fin.val = pre ∧ J ys W) (fun pre W => ∃ ys : List (Fin m), Jx ys W) ?_ ?_ W ((hW.block Bs (blk_lt hBs)).trans hBs) ((hW.block Bn (blk_lt hBn)).trans hBn) ⟨[], rfl, h0⟩).mono ?_
 ·rintro s W1 ⟨ys, e, hs⟩
  exact ⟨ys, e, hJ ys W1 W1.drew none hs ⟨rfl, rfl, rfl, Nat.le_refl _, fun _ _ _ => rfl⟩ (fun r e => by cases e)⟩
 ·rintro pre x W1 ⟨ys, rfl, hs⟩ hx hl
  obtain ⟨fn, tmps, assign, body, hy, hR⟩ := hY ys ⟨x, hx⟩ W1 hs (by rw [List.length_map] at hl; exact hl)
  refine ⟨fn, tmps, assign, body, hy, hR.mono ?_⟩
  rintro e W' (⟨rfl, h1, h2⟩ | ⟨rfl, h1⟩)
  ·exact .inl ⟨rfl, ⟨_, by rw [List.map_append]; rfl, h1⟩, h2⟩
  ·exact .inr ⟨rfl, _, h1⟩
 ·rintro e W' ⟨he, ⟨ys, rfl, zs, e2, hj⟩ | ⟨pre, _, zs, hj⟩⟩
  ·exact ⟨he, .inl ⟨zs, e2, hj⟩⟩
  ·exact ⟨he, .inr ⟨zs, trivial, hj⟩⟩
def rowS (l : List Int) (c k : Nat) : ByteArray := strOfNums ((l.drop (k * c)).take c)
def impl_tray_text.f (w h : Int) (l : List Int) : Option ByteArray :=
 if 1 ≤ w ∧ 1 ≤ l.length ∧ l.length ≤ 1000 ∧ l.length = l.length / w.toNat * w.toNat then strings_Join.f ((List.range (l.length / w.toNat)).map (rowS l w.toNat)) ⟨#[47]⟩ else none
theorem row_len (l : List Int) (c k m : Nat) (hl : l.length = m * c) (hk : k < m) : ((l.drop (k * c)).take c).length = c := by
 rw [List.length_take, List.length_drop, hl]
 have : k * c + c ≤ m * c := by rw [← Nat.succ_mul]; exact Nat.mul_le_mul_right c hk
 omega
theorem row_at (l : List Int) (c k i : Nat) (hi : i < c) : ((l.drop (k * c)).take c).getD i 0 = l.getD (k * c + i) 0 := by
 rw [List.getD_eq_getElem?_getD, List.getElem?_take, if_pos hi, List.getElem?_drop, List.getD_eq_getElem?_getD]
theorem five {w X : World} {A B C D E : Obj} (h : X = ((((w.alloc A).alloc B).alloc C).alloc D).alloc E) : X.heap.size = w.heap.size + 5 ∧ Below w.heap.size w X ∧ X.heap[w.heap.size]? = some A ∧ X.heap[w.heap.size + 1]? = some B ∧ X.heap[w.heap.size + 1 + 1]? = some C ∧ X.heap[w.heap.size + 1 + 1 + 1]? = some D ∧ X.heap[w.heap.size + 1 + 1 + 1 + 1]? = some E := by
 subst h
 have g1 : ∀ (W : World) (o : Obj) (i : Nat) (x : Obj), W.heap[i]? = some x → (W.alloc o).heap[i]? = some x := fun W o i x hx => (Below.heap_alloc W o i (blk_lt hx)).trans hx
 have n1 := World.alloc_heap_new w A
 have n2 := World.alloc_heap_new (w.alloc A) B
 have n3 := World.alloc_heap_new ((w.alloc A).alloc B) C
 have n4 := World.alloc_heap_new (((w.alloc A).alloc B).alloc C) D
 have n5 := World.alloc_heap_new ((((w.alloc A).alloc B).alloc C).alloc D) E
 simp only [World.size_alloc] at n2 n3 n4 n5
 exact ⟨by simp only [World.size_alloc], ((((((Below.refl _ w).alloc (Nat.le_refl _) _).alloc (by simp only [World.size_alloc]; omega) _).alloc (by simp only [World.size_alloc]; omega) _).alloc (by simp only [World.size_alloc]; omega) _).alloc (by simp only [World.size_alloc]; omega) _), g1 _ _ _ _ (g1 _ _ _ _ (g1 _ _ _ _ (g1 _ _ _ _ n1))), g1 _ _ _ _ (g1 _ _ _ _ (g1 _ _ _ _ n2)), g1 _ _ _ _ (g1 _ _ _ _ n3), g1 _ _ _ _ n4, n5⟩
set_option maxRecDepth 100000 in
set_option maxHeartbeats 8000000 in
theorem text_in (n : Nat) (hn : 3 ≤ n) (a0_0 a0_1 : Int) (b off cap : Nat) (l : List Int) (c m : Nat) (r : ByteArray) (w : World) (hb : b < w.heap.size) (hcell : ∀ j, j < l.length → w.cell? ⟨b, off + j, none⟩ = some (.int .u8 (l.getD j 0))) (hcap : l.length ≤ cap) (hc1 : 1 ≤ c) (h00 : a0_0 = c) (hl : l.length = m * c) (hsm : l.length ≤ 1000)
  (hj : strings_Join.f ((List.range m).map (rowS l c)) ⟨#[47]⟩ = some r) :
  CallsIn Fence.wide n Tryz.prog 52 #[.agg #[.int .i64 a0_0, .int .i64 a0_1, .slice (some ⟨b, off, none⟩) l.length cap]] w fun e w' => e = .returned (.string r) ∧ Below w.heap.size w w' := by
 have hro : Fence.wide.round = none := rfl
 have h1 : 1 ≤ n := by omega
 refine callsIn_of_wp_marks Tryz.func52 rfl trivial ?_ hro
 simp only [Tryz.ntmps52, List.size_toArray, List.length_cons, List.length_nil, Nat.reduceAdd, Nat.reduceSub, Array.replicate_succ, Array.replicate_zero, List.push_toArray, List.append_toArray, List.nil_append, List.cons_append]
 have hu := Tryz.underlying75
 subst h00
 have HL := Aside0.mk hl
 have HCL := Aside0.mk hcell
 have HJ := Aside0.mk hj
 clear hl hcell hj
 gi_wp2_with (refine ⟨trivial, ?_⟩; gi_at_call 71; refine (chunk_in Fence.wide (n - 1) trivial hro _ _ _ _ (by omega) _).mono ?_; rintro e w' ⟨he, hw⟩; simp only [World.size_alloc] at he; subst he; (have HW := Aside0.mk hw); clear hw)
 obtain ⟨hsz, hB0, bA, bB, bC, bD, bE⟩ := five HW.out
 clear HW
 have hI : OwnFrom w'.heap.size (fun (pre : List (Fin m)) W => (∃ v, Boxed W (w.heap.size + 1 + 1) 48 v ∧ W.ownsRow w.heap.size 9 1 v pre.length (pre.map fun k => Value.string (rowS l c k.val)) ∧ True) ∧ (Boxed W (w.heap.size + 1 + 1 + 1) 43 (.slice (some ⟨b, off, none⟩) l.length cap) ∧ Boxed W (w.heap.size + 1 + 1 + 1 + 1) 3 (.int .i64 c)) ∧ Below w.heap.size w W) :=
  OwnFrom.and (Own.from (holdsRow_own w.heap.size (w.heap.size + 1 + 1) 48 9 1 (fun pre : List (Fin m) => pre.length) (fun pre => pre.map fun k => Value.string (rowS l c k.val)) (fun _ _ => True)) _)
   (OwnFrom.and (OwnFrom.and (Own.from (boxed_own (w.heap.size + 1 + 1 + 1) 43 (fun _ : List (Fin m) => Value.slice (some ⟨b, off, none⟩) l.length cap)) _) (Own.from (boxed_own (w.heap.size + 1 + 1 + 1 + 1) 3 (fun _ : List (Fin m) => Value.int .i64 c)) _)) (ownFrom_below (Nat.le_refl _) (by omega)))
 have row0 : w'.ownsRow w.heap.size 9 1 (.slice (some ⟨w.heap.size + 1, 0, none⟩) 0 0) 0 [] := ⟨rfl, .inr ⟨w.heap.size + 1, 0, #[], rfl, by omega, bB, Nat.le_refl _, Nat.zero_le _, rfl, rfl⟩⟩
 refine wpIn_rangeFunc_ownG hro h1 (gf := 96) (lb := #[.pointer (some ⟨w.heap.size + 1 + 1 + 1, 0, none⟩), .pointer (some ⟨w.heap.size + 1 + 1 + 1 + 1, 0, none⟩)]) rfl trivial (enters_of Tryz.func96 (by kernel_rfl) rfl)
  (chunk_stops Fence.wide (n - 1) trivial hro (by omega) _ _ b off l.length cap c m hc1 HL.out hsm hcap w' bD bE) Kp2.trans (fun W i o o' hi _ _ _ => ⟨World.putObj_heap_other (fun e => by omega), World.putObj_heap_other (fun e => by omega)⟩) (Below.refl _ _) (fun _ => rfl)
  _ (fun _ _ _ => False) hI (fun _ _ _ _ _ hs _ _ => hs) ⟨⟨_, bC, row0, trivial⟩, ⟨bD, bE⟩, hB0⟩
  (fun x => { tmps := #[.agg #[.int .i64 c, .int .i64 a0_1, .slice (some ⟨b, off, none⟩) l.length cap], .pointer (some ⟨w.heap.size, 0, none⟩), .string ⟨#[]⟩, .pointer (some ⟨w.heap.size + 1 + 1, 0, none⟩), .slice (some ⟨b, off + x.val * c, none⟩) c c, .slice (some ⟨w.heap.size + 1, 0, none⟩) 0 0, .pointer (some ⟨w.heap.size, 2, none⟩), .slice (some ⟨b, off, none⟩) l.length cap, .pointer (some ⟨w.heap.size, 0, none⟩), .int .i64 c, .func (.func 96) #[] #[.pointer (some ⟨w.heap.size + 1 + 1 + 1, 0, none⟩), .pointer (some ⟨w.heap.size + 1 + 1 + 1 + 1, 0, none⟩)], .slice (some ⟨b, off + x.val * c, none⟩) c c, undef, undef, undef, undef, undef, undef, undef], defers := [] }) ?assign ?body ?done ?stop
 case assign =>
  intro i x W K hK
  gi_wp2
  exact hK
 case body =>
  rintro i pre x W ⟨⟨v, hv, hrow, _⟩, ⟨hD, hE⟩, hB⟩ hlt
  have hc := hv.cell
  have hrl := row_len l c x.val m HL.out x.isLt
  have hcv := run_convert_bytes_arg (P := Tryz.prog) W 43 5 Tryz.underlying43 Tryz.underlying5 b (off + x.val * c) c c ((l.drop (x.val * c)).take c) hrl (fun j hj => by
   rw [row_at l c x.val j hj, Nat.add_assoc]
   exact (hB.cell (p := ⟨b, off + (x.val * c + j), none⟩) hb).trans (HCL.out (x.val * c + j) (by
    rw [HL.out]
    have : x.val * c + c ≤ m * c := by rw [← Nat.succ_mul]; exact Nat.mul_le_mul_right c x.isLt
    omega))) 9 Tryz.underlying9
  rw [show strOfNums ((l.drop (x.val * c)).take c) = rowS l c x.val from rfl] at hcv
  obtain ⟨i0, hi, hz0, hz1, hz2⟩ := info_parts info9
  have hpl : pre.length + 1 ≤ 1000 := by
   have : m ≤ m * c := Nat.le_mul_of_pos_right m hc1
   have := HL.out
   omega
  have HD := Aside0.mk hD
  have HE := Aside0.mk hE
  clear hD hE hrl
  gi_wp2_with (gi_at_builtin; refine wpListIn_append_own _ rfl _ _ 48 rfl w.heap.size 9 i0 (.string ⟨#[]⟩) 1 16 Tryz.underlying48 hi hz0 hz1 hz2 rfl (by decide) _ _ _ rfl (hrow.alloc _) ⟨W.heap.size, 0, none⟩ 1 1 [.string (rowS l c x.val)] rfl rfl (cell_one_new _ _ _) (by simp [Value.oneCell']) (by simp [maxLen]; omega) (by omega) (by have := hB.size; simp; omega) ?_; intro v' w1 hown' hgrow _; obtain ⟨g', cap', rfl⟩ := ownsRow_succ hown'; obtain ⟨hv1, hv2, hr2, hk2, hb2⟩ := hv.appended (by decide) hrow hB.size (by omega) hown' hgrow; have hc1 := hv1.cell; have hf1 := hv1.frozen)
  have hD2 := ((HD.out.alloc (.cells #[.string (rowS l c x.val)] 9)).kept hgrow (HD.out.not_row (by decide) hrow)).other (B' := w.heap.size + 1 + 1) (by omega) (.slice (some ⟨g', 0, none⟩) (pre.length + 1) cap')
  have hE2 := ((HE.out.alloc (.cells #[.string (rowS l c x.val)] 9)).kept hgrow (HE.out.not_row (by decide) hrow)).other (B' := w.heap.size + 1 + 1) (by omega) (.slice (some ⟨g', 0, none⟩) (pre.length + 1) cap')
  exact ⟨hk2.from _, ⟨hD2.trans HD.out.symm, hE2.trans HE.out.symm⟩, ⟨_, hv2, by simpa using hr2, trivial⟩, ⟨hD2, hE2⟩, hB.trans hb2⟩
 case done =>
  rintro D ys W hD hS ⟨⟨v, hv, hrow, _⟩, _, hB⟩ hK
  have hc := hv.cell
  have hrows : (ys.map fun k => Value.string (rowS l c k.val)) = ((List.range m).map (rowS l c)).map Value.string := by
   rw [← hS, List.map_map, List.map_map]
   rfl
  have hyl : ys.length = ((List.range m).map (rowS l c)).length := by
   have := congrArg List.length hS
   simpa using this
  rw [hrows, hyl] at hrow
  have hjn := HJ.out
  generalize (List.range m).map (rowS l c) = L at hrow hjn
  have HJ2 := Aside0.mk hjn
  clear HJ hjn
  have hR : Kd.R Kd.string 9 W w.heap.size (fun _ => True) v L := Kd.R_of_own (enc := Value.string) hrow (fun _ _ => trivial)
  obtain ⟨A, cp, rfl, hlc, hC⟩ := Kd.R_reads hR
  have HK := Aside0.mk hK
  have HB := Aside0.mk hB
  have HCC := Aside0.mk hC
  have HLC := Aside0.mk hlc
  clear hrows hyl hrow hR hK hB hC hlc hv hS
  gi_wp2_with (refine ⟨trivial, ?_⟩; gi_at_call 68; refine (callsIn_wide.2 (strings_Join.calls A cp L ⟨#[47]⟩ r _ HCC.out HLC.out HJ2.out)).mono ?_; rintro e W2 ⟨rfl, hb2⟩)
  have hK2 := (hb2.block D (blk_lt HK.out)).trans HK.out
  refine ⟨by simp, .inl ⟨_, _, rfl, run_takeDeferred hK2, ?_⟩⟩
  exact ⟨_, results_tmp rfl _ _ _, rfl, (below_then HB.out HB.out.size hb2).trans (belowK_b (w := w) (Nat.le_refl _) W2 D _ _ (by omega) hK2 rfl rfl)⟩
 case stop =>
  rintro D c' pre W _ _ h _
  exact h.elim
theorem impl_tray_text.calls (a0_0 a0_1 : Int) (A0_2 : Option Addr) (c0_2 : Nat) (l0_2 : List Int) (r : ByteArray) (w : World) (hr0_2 : Kd.C (Kd.int .u8) w A0_2 l0_2.length l0_2) (hc0_2 : l0_2.length ≤ c0_2) (h : impl_tray_text.f a0_0 a0_1 l0_2 = some r) :
  Calls Tryz.prog 52 #[.agg #[.int .i64 a0_0, .int .i64 a0_1, .slice A0_2 l0_2.length c0_2]] w fun e w' => e = .returned (.string r) ∧ Below w.heap.size w w' := by
 unfold impl_tray_text.f at h
 split at h
 case isFalse => cases h
 rename_i hc
 obtain ⟨h1, h2, h3, h4⟩ := hc
 obtain ⟨b, off, rfl, hb, hcell⟩ := bytes_at hr0_2 h2
 exact callsIn_wide.1 (text_in 3 (Nat.le_refl _) a0_0 a0_1 b off c0_2 l0_2 a0_0.toNat (l0_2.length / a0_0.toNat) r w hb hcell hc0_2 (by omega) (by omega) h4 h3 h)
end Go.Proofs.YtchkmhbngbgjnaaGreatDoor.Q
end
section
namespace Go.Proofs.YtchkmhbngbgjnaaGreatDoor.Q
set_option linter.unusedSectionVars false
open Go.RowKit Go.Shelf Go.Proofs.YtchkmhbngbgjnaaGreatDoorW.PrintWords Go.Proofs.YtchkmhbngbgjnaaGreatDoorW.PrintLast Go.Proofs.YtchkmhbngbgjnaaGreatDoorW.PrintMore
def leM (a b : List Int) : Bool := decide (Lib.minOf a ≤ Lib.minOf b)
def sortable (x : List (List Int)) : Bool := decide (x.length ≤ 1000) && x.all (fun s => decide (1 ≤ s.length) && decide (s.length ≤ 1000) && decide (0 ≤ Lib.minOf s) && decide (Lib.minOf s ≤ 1000000)) && decide (x.map Lib.minOf).Nodup
def slices_SortFunc_str.f (x : List (List Int)) : Option (List (List Int)) := if sortable x = true then some (x.mergeSort leM) else none
theorem ints_at {w : World} {A : Option Addr} {l : List Int} (h : Kd.C (Kd.int .i64) w A l.length l) (h0 : 1 ≤ l.length) : ∃ b off, A = some ⟨b, off, none⟩ ∧ ∀ j, j < l.length → w.cell? ⟨b, off + j, none⟩ = some (.int .i64 (l.getD j 0)) := by
 obtain ⟨ad, rfl, _⟩ := Kd.at_int h 0 (by omega) (by omega)
 have hx : ∀ j : Nat, j < l.length → w.cell? (ad.add j) = some (.int .i64 (l.getD j 0)) := fun j hj => by
  obtain ⟨ad2, e2, h2⟩ := Kd.at_int h (j : Int) (by omega) (by omega)
  cases e2
  rw [Int.toNat_natCast] at h2
  rw [h2]
  unfold rd
  rw [Int.toNat_natCast]
 have h00 := hx 0 (by omega)
 have hsp : ad.spot = none := by
  rcases hs : ad.spot with _ | z
  ·rfl
  ·rw [Addr.add, if_pos rfl] at h00
   unfold World.cell? at h00
   split at h00
   ·rw [hs] at h00
    simp at h00
   ·cases h00
 obtain ⟨bk, o, sp⟩ := ad
 obtain rfl : sp = none := hsp
 refine ⟨bk, o, rfl, fun j hj => ?_⟩
 have h3 := hx j hj
 unfold Addr.add at h3
 split at h3
 ·rename_i h4
  subst h4
  exact h3
 ·exact h3
theorem sub_small {x y : Int} (hx : 0 ≤ x ∧ x ≤ 1000000) (hy : 0 ≤ y ∧ y ≤ 1000000) : IntKind.i64.wrap (x - y) = x - y := (i64_w _).trans (by unfold wrap64; omega)
set_option maxHeartbeats 8000000 in
set_option maxRecDepth 100000 in
theorem cmp_calls (A B : Option Addr) (ca cb : Nat) (a b : List Int) (w : World) (ha : Kd.C (Kd.int .i64) w A a.length a) (hb : Kd.C (Kd.int .i64) w B b.length b) (la : 1 ≤ a.length ∧ a.length ≤ 1000) (lb : 1 ≤ b.length ∧ b.length ≤ 1000) (ma : 0 ≤ Lib.minOf a ∧ Lib.minOf a ≤ 1000000) (mb : 0 ≤ Lib.minOf b ∧ Lib.minOf b ≤ 1000000) :
  Calls Tryz.prog 111 #[.slice A a.length ca, .slice B b.length cb] w fun e w' => e = .returned (.int .i64 (Lib.minOf a - Lib.minOf b)) ∧ w' = w := by
 obtain ⟨ba, oa, rfl, xa⟩ := ints_at ha la.1
 obtain ⟨bb, ob, rfl, xb⟩ := ints_at hb lb.1
 have h1 := Tryz.slices_Min_int ba oa a.length ca a w (by omega) (Nat.le_refl _) (by omega) xa
 have h2 := Tryz.slices_Min_int bb ob b.length cb b w (by omega) (Nat.le_refl _) (by omega) xb
 rw [List.take_length] at h1 h2
 have hwr : IntKind.i64.wrap (Lib.minOf a - Lib.minOf b) = Lib.minOf a - Lib.minOf b := sub_small ma mb
 have HW := Aside0.mk hwr
 generalize Lib.minOf a = x at h1 hwr HW ma ⊢
 generalize Lib.minOf b = y at h2 hwr HW mb ⊢
 have H1 := Aside0.mk h1
 have H2 := Aside0.mk h2
 clear ha hb xa xb ma mb la lb h1 h2 HW
 go_enter Tryz.func111, Tryz.ntmps111
 go_wp2_with fail
 refine H1.out.mono ?_
 rintro e w1 ⟨rfl, rfl⟩
 go_wp2_with fail
 refine H2.out.mono ?_
 rintro e w2 ⟨rfl, rfl⟩
 go_wp2_with fail
 go_ret
 exact ⟨rfl, rfl⟩
section
variable {α : Type} [Inhabited α] {enc : α → Value} {w : World} {g : Nat} {cur : Array Value} {T : Nat} (hg : w.heap[g]? = some (.cells cur T (0, 0)))
include hg
theorem sort_heap (m : Nat) (dk : Array α) (os : Array Obj) : (sortWorld enc w g 0 m dk os).heap[g]? = some (.cells (Sort.putCells enc 0 dk cur) T (0, 0)) := by
 have hl := blk_lt hg
 show ((w.heap.modify g _) ++ os)[g]? = _
 rw [Array.getElem?_append_left (by simpa using hl), Array.getElem?_modify, if_pos rfl, hg]
 rfl
theorem sort_other (m : Nat) (dk : Array α) (os : Array Obj) (k : Nat) (hk : k < w.heap.size) (hne : k ≠ g) : (sortWorld enc w g 0 m dk os).heap[k]? = w.heap[k]? := by
 show ((w.heap.modify g _) ++ os)[k]? = _
 rw [Array.getElem?_append_left (by simpa using hk), Array.getElem?_modify, if_neg (Ne.symm hne)]
theorem sort_size (m : Nat) (dk : Array α) (os : Array Obj) : w.heap.size ≤ (sortWorld enc w g 0 m dk os).heap.size := by
 show _ ≤ ((w.heap.modify g _) ++ os).size
 simp
end
theorem putCells_take {α : Type} [Inhabited α] (enc : α → Value) (dk : List α) (cur : Array Value) (h : dk.length ≤ cur.size) : (Sort.putCells enc 0 dk.toArray cur).toList.take dk.length = dk.map enc := by
 refine List.ext_getElem (by simp [Sort.putCells]; omega) fun j h1 h2 => ?_
 have hj : j < dk.length := by simpa using h2
 rw [List.getElem_take, List.getElem_map, Array.getElem_toList]
 unfold Sort.putCells
 rw [Array.getElem_mapIdx, if_pos ⟨Nat.zero_le _, by simpa using hj⟩]
 congr 1
 rw [Nat.sub_zero, getElem!_pos dk.toArray j (by simpa using hj)]
 simp
set_option maxHeartbeats 4000000 in
theorem slices_SortFunc_str.calls (ok : Nat → Prop) (v : Value) (x y : List (List Int)) (w0 w : World) (hB : Below w0.heap.size w0 w) (ho : Kd.S (Kd.slice 3 (Kd.int .i64)) 22 w w0.heap.size ok v x) (h : slices_SortFunc_str.f x = some y) :
  Calls Tryz.prog 110 #[v, .func (.func 111) #[] #[]] w fun e w' => e = .returned (.tuple #[]) ∧ Kd.S (Kd.slice 3 (Kd.int .i64)) 22 w' w0.heap.size ok v y ∧ Below w0.heap.size w0 w' := by
 unfold slices_SortFunc_str.f at h
 split at h
 case isFalse => cases h
 rename_i hs
 unfold sortable at hs
 simp only [Bool.and_eq_true, decide_eq_true_eq, List.all_eq_true] at hs
 obtain ⟨⟨hn1, hall⟩, hnd⟩ := hs
 obtain rfl := Option.some.inj h
 clear h
 by_cases hx0 : x = []
 ·subst hx0
  obtain ⟨A, c, rfl⟩ := Kd.S_slice ho
  have hcon := AnyF.slices_SortFunc_none (P := Tryz.prog) (ρ := Tryz.sortLists_ren) { Tryz.sortLists with } A c (.func (.func 111) #[] #[]) w
  refine hcon.mono ?_
  rintro e w' ⟨rfl, rfl⟩
  rw [List.mergeSort_nil]
  exact ⟨rfl, ho, hB⟩
 ·have hpos : 0 < x.length := List.length_pos_iff.2 hx0
  obtain ⟨f, h0, inner, hown, hrep⟩ := ho
  rw [List.length_zipIdx] at hown
  change w.ownsRow w0.heap.size 22 1 v x.length inner at hown
  rcases hown.2 with ⟨_, hz⟩ | ⟨g, cap, cur, rfl, hbase, hheap, hncap, hmax, hcsz, htake⟩
  ·omega
  have hil : inner.length = x.length := by have := hown.1; omega
  have hrep2 : ∀ i : Fin x.length, (Kd.slice 3 (Kd.int .i64)).M w w0.heap.size (fun k => (ok k ∧ some k ≠ some g) ∧ f k = i.val) x[i] [inner[i.val]'(by rw [hil]; exact i.isLt)] := by
   intro i
   have hz : x.zipIdx[i.val]? = some (x[i], i.val) := by
    rw [List.getElem?_zipIdx, List.getElem?_eq_getElem i.isLt]
    simp
   have h1 := hrep.2 i.val _ hz
   have h2 : (inner.drop (i.val * (Kd.tag f (Kd.slice 3 (Kd.int .i64))).sz)).take (Kd.tag f (Kd.slice 3 (Kd.int .i64))).sz = [inner[i.val]'(by rw [hil]; exact i.isLt)] := by
    show (inner.drop (i.val * 1)).take 1 = _
    rw [Nat.mul_one, List.drop_eq_getElem_cons (by rw [hil]; exact i.isLt)]
    rfl
   rw [h2] at h1
   exact h1
  haveI : Inhabited (Fin x.length) := ⟨⟨0, hpos⟩⟩
  let enc : Fin x.length → Value := fun i => inner[i.val]'(by rw [hil]; exact i.isLt)
  let cf : Fin x.length → Fin x.length → Int := fun i j => Lib.minOf x[i] - Lib.minOf x[j]
  have hlt : ∀ i j, ltOf cf i j = decide (Lib.minOf x[i] < Lib.minOf x[j]) := by
   intro i j
   show decide (Lib.minOf x[i] - Lib.minOf x[j] < 0) = _
   exact decide_eq_decide.2 (by omega)
  have hO : Sort.SWO (ltOf cf) := by
   refine ⟨fun i => ?_, fun i j k h1 h2 => ?_, fun i j k h1 h2 => ?_⟩
   ·rw [hlt]
    simp
   ·rw [hlt, decide_eq_true_eq] at h1 h2 ⊢
    omega
   ·rw [hlt, decide_eq_false_iff_not] at h1 h2 ⊢
    omega
  have hT : ∀ i j, ltOf cf i j = false → ltOf cf j i = false → i = j := by
   intro i j h1 h2
   rw [hlt, decide_eq_false_iff_not] at h1 h2
   have h3 : Lib.minOf x[i] = Lib.minOf x[j] := by omega
   have h4 := (List.getElem_inj (xs := x.map Lib.minOf) (i := i.val) (j := j.val) (h₀ := by simp) (h₁ := by simp) hnd).1 (by simpa using h3)
   exact Fin.ext h4
  have h1c : OneCell enc := by
   intro i
   obtain ⟨v, hv, hr⟩ := hrep2 i
   obtain ⟨A, c, e⟩ := Kd.R_slice hr
   have e2 : enc i = v := by
    have : [enc i] = [v] := hv
    injection this
   rw [e2, e]
   rfl
  let d : Array (Fin x.length) := Array.ofFn fun i => i
  have hds : d.size = x.length := Array.size_ofFn
  have hdi : ∀ j (hj : j < x.length), d[j]! = ⟨j, hj⟩ := by
   intro j hj
   rw [getElem!_pos d j (by rw [hds]; exact hj)]
   exact Array.getElem_ofFn _
  have hH : Sort.Holds enc w g 0 d := by
   intro j hj
   rw [hds] at hj
   rw [Nat.zero_add, hdi j hj]
   refine ⟨?_, blk_frozen hheap j⟩
   rw [blk_cell hheap j]
   have hjc : j < cur.size := by omega
   have h2 : inner[j]'(by rw [hil]; exact hj) = cur[j] := by
    have h3 : inner[j]? = (cur.toList.take (x.length * 1))[j]? := by rw [htake]
    rw [List.getElem?_eq_getElem (by rw [hil]; exact hj), List.getElem?_take, if_pos (by omega)] at h3
    have h4 : cur.toList[j]? = some cur[j] := by simp [hjc]
    exact Option.some.inj (h3.trans h4)
   rw [Array.getElem?_eq_getElem hjc]
   exact congrArg some h2.symm
  have hcmp : CmpLays1 Tryz.prog 111 #[] enc cf g 0 d.size w := by
   intro m os dk _ i j
   have key : ∀ i : Fin x.length, ∃ A c, enc i = .slice A x[i].length c ∧ Kd.C (Kd.int .i64) (sortWorld enc w g 0 m dk os) A x[i].length x[i] := by
    intro i
    obtain ⟨v, hv, hr⟩ := hrep2 i
    have e2 : enc i = v := by
     have : [enc i] = [v] := hv
     injection this
    have hr2 := Kd.R_step (w1 := sortWorld enc w g 0 m dk os) hr fun k hk hks => sort_other hheap m dk os k hks (fun e => hk.1.2 (by rw [e]))
    obtain ⟨A, c, e3, _, hC⟩ := Kd.R_reads hr2
    exact ⟨A, c, e2.trans e3, hC⟩
   obtain ⟨A, ca, ei, hi⟩ := key i
   obtain ⟨B, cb, ej, hj⟩ := key j
   have a1 := hall x[i] (List.getElem_mem i.isLt)
   have a2 := hall x[j] (List.getElem_mem j.isLt)
   have hc := cmp_calls A B ca cb x[i] x[j] _ hi hj ⟨a1.1.1.1, a1.1.1.2⟩ ⟨a2.1.1.1, a2.1.1.2⟩ ⟨a1.1.2, a1.2⟩ ⟨a2.1.2, a2.2⟩
   rw [ei, ej]
   refine Calls.mono hc ?_
   rintro e w' ⟨rfl, rfl⟩
   exact ⟨rfl, 0, #[], (Sort.grow_empty _).symm⟩
  have hcon := Any.slices_SortFunc_total Tryz.sortLists enc h1c cf hO 111 #[] g 0 cap d w (enters_of Tryz.func111 (by kernel_rfl) rfl) hcmp hH (blk_lt hheap) (by omega) hT
  rw [hds] at hcon
  refine Calls.mono hcon ?_
  rintro e w' ⟨rfl, m, os, rfl⟩
  have hdl : d.toList = (List.finRange x.length) := by
   refine List.ext_getElem (by rw [Array.length_toList, hds, List.length_finRange]) fun j h1 h2 => ?_
   rw [Array.getElem_toList, List.getElem_finRange]
   have := hdi j (by simpa using h2)
   rw [getElem!_pos d j (by simpa using h1)] at this
   rw [this]
   rfl
  rw [hdl]
  have hmap : (List.finRange x.length).map (fun i => x[i]) = x := List.ext_getElem (by simp) fun j h1 h2 => by simp
  have hpm : ((List.finRange x.length).mergeSort fun a b => !ltOf cf b a).map (fun i => x[i]) = x.mergeSort leM := by
   rw [List.map_mergeSort (s := leM) (fun a _ b _ => ?_), hmap]
   rw [hlt]
   unfold leM
   by_cases h3 : Lib.minOf x[a] ≤ Lib.minOf x[b]
   ·rw [decide_eq_true h3, decide_eq_false (by omega)]
    rfl
   ·rw [decide_eq_false h3, decide_eq_true (by omega)]
    rfl
  have hpp := List.mergeSort_perm (List.finRange x.length) fun a b => !ltOf cf b a
  generalize hp : ((List.finRange x.length).mergeSort fun a b => !ltOf cf b a) = p at hpm hpp
  have hpl : p.length = x.length := by rw [hpp.length_eq, List.length_finRange]
  have hpn : p.Nodup := hpp.nodup_iff.2 (List.nodup_finRange _)
  rw [← hpm]
  have hyl : (p.map fun i => x[i]).length = x.length := by rw [List.length_map, hpl]
  refine ⟨rfl, ?_, ?_⟩
  ·let f' : Nat → Nat := fun k => if hk : f k < x.length then p.idxOf ⟨f k, hk⟩ else 0
   refine ⟨f', h0, p.map enc, ?_, ?_, ?_⟩
   ·rw [List.length_zipIdx, hyl]
    refine ⟨by rw [List.length_map, hpl]; exact (Nat.mul_one _).symm, .inr ⟨g, cap, Sort.putCells enc 0 p.toArray cur, rfl, hbase, sort_heap hheap m p.toArray os, hncap, hmax, ?_, ?_⟩⟩
    ·unfold Sort.putCells
     rw [Array.size_mapIdx]
     exact hcsz
    ·have := putCells_take enc p cur (by omega)
     rw [hpl] at this
     show _ = _
     rw [show x.length * (Kd.tag f' (Kd.slice 3 (Kd.int .i64))).sz = x.length from Nat.mul_one _]
     exact this
   ·rw [List.length_map, List.length_zipIdx, List.length_map]
    exact (Nat.mul_one _).symm
   ·intro j q hq
    rw [List.getElem?_zipIdx, Nat.zero_add] at hq
    obtain ⟨z, hz, rfl⟩ := Option.map_eq_some_iff.1 hq
    rw [List.getElem?_map] at hz
    obtain ⟨i, hi, rfl⟩ := Option.map_eq_some_iff.1 hz
    have hjp : j < p.length := (List.getElem?_eq_some_iff.1 hi).1
    have hpj : p[j] = i := (List.getElem?_eq_some_iff.1 hi).2
    have h2 : ((p.map enc).drop (j * (Kd.tag f' (Kd.slice 3 (Kd.int .i64))).sz)).take (Kd.tag f' (Kd.slice 3 (Kd.int .i64))).sz = [enc i] := by
     show ((p.map enc).drop (j * 1)).take 1 = _
     rw [Nat.mul_one, List.drop_eq_getElem_cons (by simpa using hjp)]
     show [(p.map enc)[j]'(by simpa using hjp)] = _
     rw [List.getElem_map, hpj]
    rw [h2]
    have h3 := Kd.M_step (w1 := sortWorld enc w g 0 m p.toArray os) (hrep2 i) fun k hk hks => sort_other hheap m p.toArray os k hks (fun e => hk.1.2 (by rw [e]))
    refine (Kd.slice 3 (Kd.int .i64)).M_mono (fun k hk => ⟨hk.1, ?_⟩) h3
    show f' k = j
    have hk2 : f k < x.length := by rw [hk.2]; exact i.isLt
    show (if hk : f k < x.length then p.idxOf ⟨f k, hk⟩ else 0) = j
    rw [dif_pos hk2]
    have : (⟨f k, hk2⟩ : Fin x.length) = p[j] := by rw [hpj]; exact Fin.ext hk.2
    rw [this]
    exact hpn.idxOf_getElem j hjp
  ·refine ⟨hB.os, hB.tape, hB.output, Nat.le_trans hB.size (sort_size hheap m p.toArray os), fun k hk => ?_⟩
   rw [sort_other hheap m p.toArray os k (Nat.lt_of_lt_of_le hk hB.size) (by omega)]
   exact hB.block k hk
end Go.Proofs.YtchkmhbngbgjnaaGreatDoor.Q
end
section
namespace Go.Proofs.YtchkmhbngbgjnaaGreatDoor.Q
open Go.RowKit Go.Proofs.YtchkmhbngbgjnaaGreatDoorW.PrintWords Go.Proofs.YtchkmhbngbgjnaaGreatDoorW.PrintLast Go.Proofs.YtchkmhbngbgjnaaGreatDoorW.PrintMore
attribute [local go_sem] max2_int min2_int max_two min_two max_three min_three max_four min_four
set_option linter.unusedVariables false
set_option linter.unusedSimpArgs false
def slices_Reverse_int_int.l0 : Nat → List Int → Int → Int → Option (List Int)
 | 0, _, _, _ => none
 | k + 1, x0, x2, x3 => if x2 < x3 then (if 0 ≤ x3 then (if x3 < (x0.length : Int) then (if 0 ≤ x2 then (if x2 < (x0.length : Int) then (slices_Reverse_int_int.l0 k ((x0.set (x2 : Int).toNat (rd x0 x3)).set (x3 : Int).toNat (rd x0 x2)) (wrap64 (x2 + 1)) (wrap64 (x3 - 1))) else (none)) else (none)) else (none)) else (none)) else (some x0)
def slices_Reverse_int_int.f (k : Nat) (l0 : List Int) : Option (List Int) := slices_Reverse_int_int.l0 k l0 0 (wrap64 ((l0.length : Int) - 1))
theorem slices_Reverse_int_int.mono_l : ∀ k, (∀ y0 y1 y2, LeO (slices_Reverse_int_int.l0 k y0 y1 y2) (slices_Reverse_int_int.l0 (k + 1) y0 y1 y2))
 | 0 => fun _ _ _ r h => by simp [slices_Reverse_int_int.l0] at h
 | k + 1 => by
  have ih0 := slices_Reverse_int_int.mono_l k
  ·intro y0 y1 y2
   unfold slices_Reverse_int_int.l0
   repeat' first
   | (with_reducible apply ih0)
   | (with_reducible exact LeO.refl _)
   | (with_reducible exact LeO.none _)
   | (with_reducible refine LeO.ite ?_ ?_)
   | (with_reducible refine LeO.bind ?_ (fun _ => ?_))
   | apply ih0
   | exact LeO.none _
   | refine LeO.ite ?_ ?_
   | refine LeO.bind ?_ (fun _ => ?_)
theorem slices_Reverse_int_int.mono : ∀ a0 k, LeO (slices_Reverse_int_int.f k a0) (slices_Reverse_int_int.f (k + 1) a0) := by
 intro a0 k
 have ih0 := slices_Reverse_int_int.mono_l k
 unfold slices_Reverse_int_int.f
 repeat' first
   | (with_reducible apply ih0)
   | (with_reducible exact LeO.refl _)
   | (with_reducible exact LeO.none _)
   | (with_reducible refine LeO.ite ?_ ?_)
   | (with_reducible refine LeO.bind ?_ (fun _ => ?_))
   | apply ih0
   | exact LeO.none _
   | refine LeO.ite ?_ ?_
   | refine LeO.bind ?_ (fun _ => ?_)
def slices_Reverse_int_int.T3 : Bool × List (List Nat × List Nat) := (true, [([], []), ([], []), ([], []), ([], []), ([], []), ([], []), ([4, 5], [4, 5]), ([6], [6]), ([], []), ([], []), ([8, 9], [8, 9]), ([10], [10]), ([0, 1, 0, 1, 4, 5, 6, 7, 11], [0, 1]), ([12, 7, 0, 1, 4, 5, 6, 7, 11], [7, 12]), ([2, 3, 0, 1, 2, 3, 4, 5, 6, 7, 8, 9, 10, 11, 12, 13], [2, 3]), ([14, 11, 13, 0, 1, 2, 3, 4, 5, 6, 7, 8, 9, 10, 11, 12, 13], [11, 14])])
def slices_Reverse_int_int.B3 : List Nat := [0, 0, 0, 0, 0, 0, 48, 112, 0, 0, 768, 1792, 4083, 8179, 16383, 32767]
theorem slices_Reverse_int_int.tab3 : rtab .any (opsOf Tryz.f125 3) = slices_Reverse_int_int.T3 := by kernel_rfl
theorem slices_Reverse_int_int.bits3 : waitsOk slices_Reverse_int_int.T3.2 slices_Reverse_int_int.B3 = true := by kernel_rfl
set_option maxHeartbeats 8000000 in
set_option maxRecDepth 100000 in
theorem slices_Reverse_int_int.calls (k : Nat) (P0_ : Nat → Prop) (u9000_ : Value) (l0 : List Int) (r : List Int) (w0 w : World) (hB : Below w0.heap.size w0 w) (ho0 : Kd.R (Kd.int .i64) 3 w w0.heap.size P0_ u9000_ l0) (h : slices_Reverse_int_int.f k l0 = some r) :
  Calls Tryz.prog 125 #[u9000_] w fun e w' => e = .returned (.tuple #[]) ∧ Kd.R (Kd.int .i64) 3 w' w0.heap.size (fun k_ => (P0_ k_ ∨ w.heap.size ≤ k_)) u9000_ r ∧ Below w0.heap.size w0 w' ∧ Kept w w' (fun k_ => P0_ k_) := by
 have HO0 := Aside0.mk (show Kd.R (Kd.int .i64) 3 w w0.heap.size (fun k_ => (P0_ k_ ∨ w.heap.size ≤ k_)) u9000_ l0 from Kd.R_mono ho0 (fun k_ hk => (.inl hk)))
 have HK := Aside0.mk (Kept.refl w (fun k_ => P0_ k_))
 have HW0 := Aside0.mk hB.size
 have HB := Aside0.mk hB
 clear hB
 have H : (slices_Reverse_int_int.l0 k l0 0 (wrap64 ((l0.length : Int) - 1))) = some r := h
 clear h
 have H' := Aside0.mk H
 clear H
 obtain ⟨Ao2, co2, eo2⟩ := Kd.R_slice HO0.out
 subst eo2
 go_enter Tryz.func125, Tryz.ntmps125
 go_wp2
 go_loopg [2, 3] k (fun kq v2 v3 w' => ∃ (x0_1 : List Int) (x2_1 : Int) (x3_1 : Int), v2 = .int .i64 x2_1 ∧ v3 = .int .i64 x3_1 ∧ Aside0 (slices_Reverse_int_int.l0 kq x0_1 x2_1 x3_1 = some r) ∧ Aside0 (kq ≤ k) ∧ Aside0 (Kd.R (Kd.int .i64) 3 w' w0.heap.size (fun k_ => (P0_ k_ ∨ w.heap.size ≤ k_)) (.slice Ao2 l0.length co2) x0_1) ∧ Aside0 (Kept w w' (fun k_ => P0_ k_)) ∧ Aside0 (Below w0.heap.size w0 w'))
 case atStart => exact ⟨(l0), (0), (wrap64 ((l0.length : Int) - 1)), (by first | rfl | (simp; done) | (simp [*]; done)), (by first | rfl | (simp; done) | (simp [*]; done)), H', ⟨Nat.le_refl _⟩, ⟨rch HO0⟩, ⟨by repeat (first | (with_reducible first | exact HK.out | apply Kept.alloc | apply Kept.drewN | apply Kept.drew) | exact HK.out)⟩, ⟨bel HB⟩⟩
 case round =>
  clear H'
  try clear c1
  try clear p2
  obtain ⟨x0_1, x2_1, x3_1, rfl, rfl, HA, HK1, HO_0, HK, HB⟩ := hrel
  have hl0_1 := (Kd.R_reads' HO_0.out).1
  rw [hl0_1] at HO_0
  (try simp only [hl0_1])
  cases gk with
  | zero => exact absurd HA.out (by simp [slices_Reverse_int_int.l0])
  | succ k1 =>
   have H := HA.out
   clear HA
   simp only [slices_Reverse_int_int.l0] at H
   by_cases c3 : x2_1 < x3_1
   ·rw [if_pos c3] at H
    have c3b0 : decide (x2_1 < x3_1) = true := decide_eq_true c3
    clear c3
    by_cases c4 : 0 ≤ x3_1
    ·rw [if_pos c4] at H
     have c4b0 : decide (0 ≤ x3_1) = true := decide_eq_true c4
     clear c4
     by_cases c5 : x3_1 < (x0_1.length : Int)
     ·rw [if_pos c5] at H
      have c5b0 : decide (x3_1 < (x0_1.length : Int)) = true := decide_eq_true c5
      clear c5
      by_cases c6 : 0 ≤ x2_1
      ·rw [if_pos c6] at H
       have c6b0 : decide (0 ≤ x2_1) = true := decide_eq_true c6
       clear c6
       by_cases c7 : x2_1 < (x0_1.length : Int)
       ·rw [if_pos c7] at H
        have c7b0 : decide (x2_1 < (x0_1.length : Int)) = true := decide_eq_true c7
        clear c7
        obtain ⟨y103, hy103⟩ : ∃ y_ : List Int, y_ = (x0_1.set (x2_1 : Int).toNat (rd x0_1 x3_1)) := ⟨_, rfl⟩
        replace H : (slices_Reverse_int_int.l0 k1 (y103.set (x3_1 : Int).toNat (rd x0_1 x2_1)) (wrap64 (x2_1 + 1)) (wrap64 (x3_1 - 1))) = some r := rH hy103 H
        have Ny103 := Aside0.mk hy103
        clear hy103
        obtain ⟨y104, hy104⟩ : ∃ y_ : List Int, y_ = (y103.set (x3_1 : Int).toNat (rd x0_1 x2_1)) := ⟨_, rfl⟩
        replace H : (slices_Reverse_int_int.l0 k1 y104 (wrap64 (x2_1 + 1)) (wrap64 (x3_1 - 1))) = some r := rH hy104 H
        have Ny104 := Aside0.mk hy104
        clear hy104
        have H' := Aside0.mk H
        clear H
        try go_wp2
        have n0_ := Aside0.mk (Kd.R_drew HO_0.out)
        have n1_ := Aside0.mk (Kept.drew HK.out)
        have n2_ := Aside0.mk (below_drew1 HB.out)
        clear HO_0
        clear HK
        clear HB
        have HO_0 := n0_
        have HK := n1_
        have HB := n2_
        clear n0_ n1_ n2_
        have p101 : 0 ≤ (x3_1 : Int) := of_decide_eq_true (by first | (with_reducible assumption) | assumption)
        have q101 : x3_1 < (x0_1.length : Int) := of_decide_eq_true (by first | (with_reducible assumption) | assumption)
        obtain ⟨ad101, e101, hx101_0⟩ := Kd.at_int (Kd.R_reads' HO_0.out).2.2 x3_1 p101 q101
        cases e101
        replace p101 := eq_true p101
        replace q101 := eq_true q101
        have p102 : 0 ≤ (x2_1 : Int) := of_decide_eq_true (by first | (with_reducible assumption) | assumption)
        have q102 : x2_1 < (x0_1.length : Int) := of_decide_eq_true (by first | (with_reducible assumption) | assumption)
        obtain ⟨ad102, e102, hx102_0⟩ := Kd.at_int (Kd.R_reads' HO_0.out).2.2 x2_1 p102 q102
        obtain rfl : ad101 = ad102 := (by injection e102)
        replace p102 := eq_true p102
        replace q102 := eq_true q102
        have p8 : 0 ≤ (x2_1 : Int) := of_decide_eq_true (by first | (with_reducible assumption) | assumption)
        have q8 : (x2_1 : Int) < ((x0_1.length : Int) : Int) := of_decide_eq_true (by first | (with_reducible assumption) | assumption)
        obtain ⟨go8, co8, eo8, gb8, gl8, cl8, HG8⟩ := Kd.R_form HO_0.out (by omega)
        (first | cases eo8 | (injection eo8 with ea_ en_ ec_; (first | subst ea_ | (injection ea_ with ea_; subst ea_)); subst ec_; clear en_))
        have GB8 := Aside0.mk gb8
        have GG8 := Aside0.mk HG8
        clear gb8 gl8 HG8
        have HMgo8 := Aside0.mk (show (P0_ go8 ∨ w.heap.size ≤ go8) from (HO_0.out.1 _ rfl))
        (first | simp only [add_plain] at hx101_0 | skip)
        (first | simp only [add_plain] at hx102_0 | skip)
        obtain ⟨hx8_0, hf8_0⟩ := Kd.R_celln 0 HO_0.out (x2_1 : Int) p8 q8
        replace p8 := eq_true p8
        replace q8 := eq_true q8
        have HP11 := Kd.R_putn HO_0.out (x2_1 : Int) (rd x0_1 x3_1)
        rw [← Ny103.out] at HP11
        have HQ11 := Aside0.mk HP11
        clear HP11
        have p9 : 0 ≤ (x3_1 : Int) := of_decide_eq_true (by first | (with_reducible assumption) | assumption)
        have q9 : (x3_1 : Int) < ((x0_1.length : Int) : Int) := of_decide_eq_true (by first | (with_reducible assumption) | assumption)
        obtain ⟨hx9_0, hf9_0⟩ := Kd.R_celln 0 HQ11.out (x3_1 : Int) p9 q9
        replace p9 := eq_true p9
        replace q9 := eq_true q9
        have HP12 := Kd.R_putn HQ11.out (x3_1 : Int) (rd x0_1 x2_1)
        rw [← Ny104.out] at HP12
        have HQ12 := Aside0.mk HP12
        clear HP12
        refine start_ (n := 16) (S := fun w' => w'.cell? ⟨go8, (x3_1).toNat, none⟩ = some (.int .i64 (rd x0_1 x3_1)) ∧ w'.cell? ⟨go8, (x2_1).toNat, none⟩ = some (.int .i64 (rd x0_1 x2_1))) (ds := [13, 15]) #[false, false, false, false, false, false, false, false, false, false, false, false, false, false, false, false] (by kernel_rfl) rfl rfl ⟨hx101_0, hx102_0⟩ (fun hHeld => ?_); refine with_tabW slices_Reverse_int_int.tab3 slices_Reverse_int_int.bits3 (fun HT_ HW_ => ?_)
        generalize wr.drew = w10 at HO_0 HK HB GG8 HQ11 HQ12 hf8_0 hf9_0 hx101_0 hx102_0 hx8_0 hx9_0 hHeld ⊢
        refine pure_ (i := 0) (N := some 14) (v := ?_) (a' := ?_) #[true, false, false, false, false, false, false, false, false, false, false, false, false, false, false, false] rfl rfl (any_of HT_.out (by kernel_rfl)) (fun _ _ _ h => h) (Or.inl ⟨by rfl, ?_⟩) ?_ ?_
        rotate_left
        ·intro w'
         go_simp
         with_reducible rfl
        rotate_left
        ·simp only [Act.put, List.setIfInBounds_toArray, List.set_cons_zero, List.set_cons_succ, i64_w, i32_w]
         rfl
        refine pure_ (i := 1) (N := some 15) (v := ?_) (a' := ?_) #[true, true, false, false, false, false, false, false, false, false, false, false, false, false, false, false] rfl rfl (any_of HT_.out (by kernel_rfl)) (fun _ _ _ h => h) (Or.inl ⟨by rfl, ?_⟩) ?_ ?_
        rotate_left
        ·intro w'
         go_simp
         with_reducible rfl
        rotate_left
        ·simp only [Act.put, List.setIfInBounds_toArray, List.set_cons_zero, List.set_cons_succ, i64_w, i32_w]
         rfl
        refine pure_ (i := 2) (N := some 16) (v := ?_) (a' := ?_) #[true, true, true, false, false, false, false, false, false, false, false, false, false, false, false, false] rfl rfl (any_of HT_.out (by kernel_rfl)) (fun _ _ _ h => h) (Or.inl ⟨by rfl, ?_⟩) ?_ ?_
        rotate_left
        ·intro w'
         go_simp
         with_reducible rfl
        rotate_left
        ·simp only [Act.put, List.setIfInBounds_toArray, List.set_cons_zero, List.set_cons_succ, i64_w, i32_w]
         rfl
        refine pure_ (i := 3) (N := some 17) (v := ?_) (a' := ?_) #[true, true, true, true, false, false, false, false, false, false, false, false, false, false, false, false] rfl rfl (any_of HT_.out (by kernel_rfl)) (fun _ _ _ h => h) (Or.inl ⟨by rfl, ?_⟩) ?_ ?_
        rotate_left
        ·intro w'
         go_simp
         with_reducible rfl
        rotate_left
        ·simp only [Act.put, List.setIfInBounds_toArray, List.set_cons_zero, List.set_cons_succ, i64_w, i32_w]
         rfl
        refine pure_ (i := 4) (N := some 18) (v := ?_) (a' := ?_) #[true, true, true, true, true, false, false, false, false, false, false, false, false, false, false, false] rfl rfl (any_of HT_.out (by kernel_rfl)) (fun _ _ _ h => h) (Or.inl ⟨by rfl, ?_⟩) ?_ ?_
        rotate_left
        ·intro w'
         go_simp
         with_reducible rfl
        rotate_left
        ·simp only [Act.put, List.setIfInBounds_toArray, List.set_cons_zero, List.set_cons_succ, i64_w, i32_w]
         rfl
        refine pure_ (i := 5) (N := some 19) (v := ?_) (a' := ?_) #[true, true, true, true, true, true, false, false, false, false, false, false, false, false, false, false] rfl rfl (any_of HT_.out (by kernel_rfl)) (fun _ _ _ h => h) (Or.inl ⟨by rfl, ?_⟩) ?_ ?_
        rotate_left
        ·intro w'
         go_simp
         with_reducible rfl
        rotate_left
        ·simp only [Act.put, List.setIfInBounds_toArray, List.set_cons_zero, List.set_cons_succ, i64_w, i32_w]
         rfl
        refine pure_ (i := 6) (N := some 20) (v := ?_) (a' := ?_) #[true, true, true, true, true, true, true, false, false, false, false, false, false, false, false, false] rfl rfl (any_of HT_.out (by kernel_rfl)) (fun _ _ _ h => h) (Or.inl ⟨by rfl, ?_⟩) ?_ ?_
        rotate_left
        ·intro w'
         go_simp
         with_reducible rfl
        rotate_left
        ·simp only [Act.put, List.setIfInBounds_toArray, List.set_cons_zero, List.set_cons_succ, i64_w, i32_w]
         rfl
        refine pure_ (i := 8) (N := some 22) (v := ?_) (a' := ?_) #[true, true, true, true, true, true, true, false, true, false, false, false, false, false, false, false] rfl rfl (any_of HT_.out (by kernel_rfl)) (fun _ _ _ h => h) (Or.inl ⟨by rfl, ?_⟩) ?_ ?_
        rotate_left
        ·intro w'
         go_simp
         with_reducible rfl
        rotate_left
        ·simp only [Act.put, List.setIfInBounds_toArray, List.set_cons_zero, List.set_cons_succ, i64_w, i32_w]
         rfl
        refine pure_ (i := 9) (N := some 23) (v := ?_) (a' := ?_) #[true, true, true, true, true, true, true, false, true, true, false, false, false, false, false, false] rfl rfl (any_of HT_.out (by kernel_rfl)) (fun _ _ _ h => h) (Or.inl ⟨by rfl, ?_⟩) ?_ ?_
        rotate_left
        ·intro w'
         go_simp
         with_reducible rfl
        rotate_left
        ·simp only [Act.put, List.setIfInBounds_toArray, List.set_cons_zero, List.set_cons_succ, i64_w, i32_w]
         rfl
        refine pure_ (i := 10) (N := some 24) (v := ?_) (a' := ?_) #[true, true, true, true, true, true, true, false, true, true, true, false, false, false, false, false] rfl rfl (any_of HT_.out (by kernel_rfl)) (fun _ _ _ h => h) (Or.inl ⟨by rfl, ?_⟩) ?_ ?_
        rotate_left
        ·intro w'
         go_simp
         with_reducible rfl
        rotate_left
        ·simp only [Act.put, List.setIfInBounds_toArray, List.set_cons_zero, List.set_cons_succ, i64_w, i32_w]
         rfl
        refine take_ (i := 7) (N := some 21) (v := ?_) (a' := ?_) #[true, true, true, true, true, true, true, true, true, true, true, false, false, false, false, false] rfl rfl (take_ofW HT_.out HW_.out (by kernel_rfl)) (fun _ _ _ h => h) (Or.inl ⟨by rfl, ?_⟩) hHeld ?_ ?_
        rotate_left
        ·rintro w' ⟨s0, s1⟩
         go_simp
         with_reducible rfl
        rotate_left
        ·simp only [Act.put, List.setIfInBounds_toArray, List.set_cons_zero, List.set_cons_succ, i64_w, i32_w]
         rfl
        refine take_ (i := 11) (N := some 25) (v := ?_) (a' := ?_) #[true, true, true, true, true, true, true, true, true, true, true, true, false, false, false, false] rfl rfl (take_ofW HT_.out HW_.out (by kernel_rfl)) (fun _ _ _ h => h) (Or.inl ⟨by rfl, ?_⟩) hHeld ?_ ?_
        rotate_left
        ·rintro w' ⟨s0, s1⟩
         go_simp
         with_reducible rfl
        rotate_left
        ·simp only [Act.put, List.setIfInBounds_toArray, List.set_cons_zero, List.set_cons_succ, i64_w, i32_w]
         rfl
        refine pure_ (i := 12) (N := some 26) (v := ?_) (a' := ?_) #[true, true, true, true, true, true, true, true, true, true, true, true, true, false, false, false] rfl rfl (any_of HT_.out (by kernel_rfl)) (fun _ _ _ h => h) (Or.inl ⟨by rfl, ?_⟩) ?_ ?_
        rotate_left
        ·intro w'
         go_simp
         with_reducible rfl
        rotate_left
        ·simp only [Act.put, List.setIfInBounds_toArray, List.set_cons_zero, List.set_cons_succ, i64_w, i32_w]
         rfl
        refine last_ (i := 13) (N := none) #[true, true, true, true, true, true, true, true, true, true, true, true, true, true, false, false] rfl rfl (one_of HT_.out (by kernel_rfl)) (by decide) (fun K hK => ?_)
        refine skip_ (w1 := ?_) (by rfl) rfl ?_ ?_
        rotate_left
        ·go_simp
         rfl
        refine hK.out _ _ ?_
        clear hK K
        refine pure_ (i := 14) (N := some 27) (v := ?_) (a' := ?_) #[true, true, true, true, true, true, true, true, true, true, true, true, true, true, true, false] rfl rfl (any_of HT_.out (by kernel_rfl)) (fun _ _ _ h => h) (Or.inl ⟨by rfl, ?_⟩) ?_ ?_
        rotate_left
        ·intro w'
         go_simp
         with_reducible rfl
        rotate_left
        ·simp only [Act.put, List.setIfInBounds_toArray, List.set_cons_zero, List.set_cons_succ, i64_w, i32_w]
         rfl
        refine last_ (i := 15) (N := none) #[true, true, true, true, true, true, true, true, true, true, true, true, true, true, true, true] rfl rfl (one_of HT_.out (by kernel_rfl)) (by decide) (fun K hK => ?_)
        refine skip_ (w1 := ?_) (by rfl) rfl ?_ ?_
        rotate_left
        ·go_simp
         rfl
        refine hK.out _ _ ?_
        clear hK K
        refine done_ (done_of HT_.out (by kernel_rfl)) ?_
        try go_wp2
        (try simp only [← hl0_1])
        go_roundg k1
        case measure => have := HK1.out; omega
        case rel => exact ⟨(y104), (wrap64 (x2_1 + 1)), (wrap64 (x3_1 - 1)), (by first | rfl | (simp; done) | (simp [*]; done)), (by first | rfl | (simp; done) | (simp [*]; done)), H', ⟨by have := HK1.out; omega⟩, ⟨by (try simp only [hl0_1]); (with_reducible repeat (first | apply Kd.R_alloc | apply Kd.R_drewN | apply Kd.R_drew)); exact HQ12.out⟩, ⟨by repeat (first | (with_reducible first | exact HK.out | apply Kept.alloc | apply Kept.drewN | apply Kept.drew | refine Kept.setCell ?_ HMgo8.out _ | refine Kept.setCell ?_ HMgo8.out _) | exact HK.out)⟩, ⟨bel HB⟩⟩
       ·rw [if_neg c7] at H
        exact absurd H (by simp)
      ·rw [if_neg c6] at H
       exact absurd H (by simp)
     ·rw [if_neg c5] at H
      exact absurd H (by simp)
    ·rw [if_neg c4] at H
     exact absurd H (by simp)
   ·rw [if_neg c3] at H
    have c3b0 : decide (x2_1 < x3_1) = false := decide_eq_false c3
    clear c3
    obtain rfl := Option.some.inj H
    go_wp2
    first | go_end0 | ((try simp only [Exit.inBlock, Exit.then]); refine bodyPost_ret (results_none rfl _ _ _) rfl ?_)
    exact ⟨by first | rfl | (simp [errW_none, errW_some] <;> rfl) | (simp [*, errW_none, errW_some] <;> rfl), (by first | exact (rch HO_0) | (simp only [hl0_1]; exact (rch HO_0))), by repeat (first | (with_reducible first | exact HB.out | apply below_alloc | apply pw_below_drewN | apply below_drew1) | exact HB.out), by repeat (first | (with_reducible first | exact HK.out | apply Kept.alloc | apply Kept.drewN | apply Kept.drew) | exact HK.out)⟩
mutual
def impl_tray_lines.j0 : Nat → Int → List (List Int) → Int → Int → Bool → Int → Int → List Int → Option ((List (List Int)))
 | 0, _, _, _, _, _, _, _, _ => none
 | k + 1, x1, x5, x6, x7, x21, x102000, x102001, x102002 => if x21 = true then (impl_tray_lines.j1 k x1 x5 x102000 x102001 x102000 x102001 x102002) else (impl_tray_lines.j1 k x1 x5 x6 x7 x102000 x102001 x102002)
def impl_tray_lines.j1 : Nat → Int → List (List Int) → Int → Int → Int → Int → List Int → Option ((List (List Int)))
 | 0, _, _, _, _, _, _, _ => none
 | k + 1, x1, x5, x6, x7, x102000, x102001, x102002 => impl_tray_lines.l0 k x1 x5 x7 x6 0 x102000 x102001 x102002
def impl_tray_lines.l0 : Nat → Int → List (List Int) → Int → Int → Int → Int → Int → List Int → Option ((List (List Int)))
 | 0, _, _, _, _, _, _, _, _ => none
 | k + 1, x1, x5, x7, x26, x27, x102000, x102001, x102002 => if x27 < x26 then (impl_tray_lines.l1 k x1 x5 x7 x27 (([] : List Int)) x26 x27 x7 0 x102000 x102001 x102002) else (some x5)
def impl_tray_lines.l1 : Nat → Int → List (List Int) → Int → Int → List Int → Int → Int → Int → Int → Int → Int → List Int → Option ((List (List Int)))
 | 0, _, _, _, _, _, _, _, _, _, _, _, _ => none
 | k + 1, x1, x5, x7, x8, x9, x26, x27, x31, x32, x102000, x102001, x102002 => if x32 < x31 then (if x1 = 117 then (impl_tray_lines.j4 k x1 x5 x7 x8 x9 x32 x26 x27 x31 x32 true x102000 x102001 x102002) else (impl_tray_lines.j4 k x1 x5 x7 x8 x9 x32 x26 x27 x31 x32 (x1 == 100) x102000 x102001 x102002)) else (if x1 = 114 then ((slices_Reverse_int_int.f k x9).bind fun t108 => (if x5.length < 5864062014805 then (impl_tray_lines.l0 k x1 (x5 ++ [t108]) x7 x26 (wrap64 (x27 + 1)) x102000 x102001 x102002) else (none))) else (if x1 = 100 then ((slices_Reverse_int_int.f k x9).bind fun t112 => (if x5.length < 5864062014805 then (impl_tray_lines.l0 k x1 (x5 ++ [t112]) x7 x26 (wrap64 (x27 + 1)) x102000 x102001 x102002) else (none))) else (if x5.length < 5864062014805 then (impl_tray_lines.l0 k x1 (x5 ++ [x9]) x7 x26 (wrap64 (x27 + 1)) x102000 x102001 x102002) else (none))))
def impl_tray_lines.j4 : Nat → Int → List (List Int) → Int → Int → List Int → Int → Int → Int → Int → Int → Bool → Int → Int → List Int → Option ((List (List Int)))
 | 0, _, _, _, _, _, _, _, _, _, _, _, _, _, _ => none
 | k + 1, x1, x5, x7, x8, x9, x10, x26, x27, x31, x32, x40, x102000, x102001, x102002 => if x40 = true then ((impl_tray_number.f x102000 x102001 x102002 x8 x10).bind fun t119 => (if x9.length < 17592186044416 then (impl_tray_lines.l1 k x1 x5 x7 x8 (x9 ++ [t119]) x26 x27 x31 (wrap64 (x32 + 1)) x102000 x102001 x102002) else (none))) else ((impl_tray_number.f x102000 x102001 x102002 x10 x8).bind fun t123 => (if x9.length < 17592186044416 then (impl_tray_lines.l1 k x1 x5 x7 x8 (x9 ++ [t123]) x26 x27 x31 (wrap64 (x32 + 1)) x102000 x102001 x102002) else (none)))
end
def impl_tray_lines.f (k : Nat) (a0_0 : Int) (a0_1 : Int) (l0_2 : List Int) (a1 : Int) : Option ((List (List Int))) := (some (([] : List (List Int)) : List (List Int))).bind fun y102 => (if a1 = 117 then (impl_tray_lines.j0 k a1 y102 a0_1 a0_0 true a0_0 a0_1 l0_2) else (impl_tray_lines.j0 k a1 y102 a0_1 a0_0 (a1 == 100) a0_0 a0_1 l0_2))
theorem impl_tray_lines.mono_l : ∀ k, (∀ y0 y1 y2 y3 y4 y5 y6 y7, LeO (impl_tray_lines.j0 k y0 y1 y2 y3 y4 y5 y6 y7) (impl_tray_lines.j0 (k + 1) y0 y1 y2 y3 y4 y5 y6 y7)) ∧ (∀ y0 y1 y2 y3 y4 y5 y6, LeO (impl_tray_lines.j1 k y0 y1 y2 y3 y4 y5 y6) (impl_tray_lines.j1 (k + 1) y0 y1 y2 y3 y4 y5 y6)) ∧ (∀ y0 y1 y2 y3 y4 y5 y6 y7, LeO (impl_tray_lines.l0 k y0 y1 y2 y3 y4 y5 y6 y7) (impl_tray_lines.l0 (k + 1) y0 y1 y2 y3 y4 y5 y6 y7)) ∧ (∀ y0 y1 y2 y3 y4 y5 y6 y7 y8 y9 y10 y11, LeO (impl_tray_lines.l1 k y0 y1 y2 y3 y4 y5 y6 y7 y8 y9 y10 y11) (impl_tray_lines.l1 (k + 1) y0 y1 y2 y3 y4 y5 y6 y7 y8 y9 y10 y11)) ∧ (∀ y0 y1 y2 y3 y4 y5 y6 y7 y8 y9 y10 y11 y12 y13, LeO (impl_tray_lines.j4 k y0 y1 y2 y3 y4 y5 y6 y7 y8 y9 y10 y11 y12 y13) (impl_tray_lines.j4 (k + 1) y0 y1 y2 y3 y4 y5 y6 y7 y8 y9 y10 y11 y12 y13))
 | 0 => ⟨fun _ _ _ _ _ _ _ _ r h => by simp [impl_tray_lines.j0] at h, fun _ _ _ _ _ _ _ r h => by simp [impl_tray_lines.j1] at h, fun _ _ _ _ _ _ _ _ r h => by simp [impl_tray_lines.l0] at h, fun _ _ _ _ _ _ _ _ _ _ _ _ r h => by simp [impl_tray_lines.l1] at h, fun _ _ _ _ _ _ _ _ _ _ _ _ _ _ r h => by simp [impl_tray_lines.j4] at h⟩
 | k + 1 => by
  obtain ⟨ih0, ih1, ih2, ih3, ih4⟩ := impl_tray_lines.mono_l k
  refine ⟨?_, ?_, ?_, ?_, ?_⟩
  ·intro y0 y1 y2 y3 y4 y5 y6 y7
   unfold impl_tray_lines.j0
   repeat' first
   | (with_reducible apply ih0)
   | (with_reducible apply ih1)
   | (with_reducible apply ih2)
   | (with_reducible apply ih3)
   | (with_reducible apply ih4)
   | (with_reducible exact slices_Reverse_int_int.mono _ _)
   | (with_reducible exact LeO.refl _)
   | (with_reducible exact LeO.none _)
   | (with_reducible refine LeO.ite ?_ ?_)
   | (with_reducible refine LeO.bind ?_ (fun _ => ?_))
   | apply ih0
   | apply ih1
   | apply ih2
   | apply ih3
   | apply ih4
   | exact slices_Reverse_int_int.mono _ _
   | exact LeO.none _
   | refine LeO.ite ?_ ?_
   | refine LeO.bind ?_ (fun _ => ?_)
  ·intro y0 y1 y2 y3 y4 y5 y6
   unfold impl_tray_lines.j1
   repeat' first
   | (with_reducible apply ih0)
   | (with_reducible apply ih1)
   | (with_reducible apply ih2)
   | (with_reducible apply ih3)
   | (with_reducible apply ih4)
   | (with_reducible exact slices_Reverse_int_int.mono _ _)
   | (with_reducible exact LeO.refl _)
   | (with_reducible exact LeO.none _)
   | (with_reducible refine LeO.ite ?_ ?_)
   | (with_reducible refine LeO.bind ?_ (fun _ => ?_))
   | apply ih0
   | apply ih1
   | apply ih2
   | apply ih3
   | apply ih4
   | exact slices_Reverse_int_int.mono _ _
   | exact LeO.none _
   | refine LeO.ite ?_ ?_
   | refine LeO.bind ?_ (fun _ => ?_)
  ·intro y0 y1 y2 y3 y4 y5 y6 y7
   unfold impl_tray_lines.l0
   repeat' first
   | (with_reducible apply ih0)
   | (with_reducible apply ih1)
   | (with_reducible apply ih2)
   | (with_reducible apply ih3)
   | (with_reducible apply ih4)
   | (with_reducible exact slices_Reverse_int_int.mono _ _)
   | (with_reducible exact LeO.refl _)
   | (with_reducible exact LeO.none _)
   | (with_reducible refine LeO.ite ?_ ?_)
   | (with_reducible refine LeO.bind ?_ (fun _ => ?_))
   | apply ih0
   | apply ih1
   | apply ih2
   | apply ih3
   | apply ih4
   | exact slices_Reverse_int_int.mono _ _
   | exact LeO.none _
   | refine LeO.ite ?_ ?_
   | refine LeO.bind ?_ (fun _ => ?_)
  ·intro y0 y1 y2 y3 y4 y5 y6 y7 y8 y9 y10 y11
   unfold impl_tray_lines.l1
   repeat' first
   | (with_reducible apply ih0)
   | (with_reducible apply ih1)
   | (with_reducible apply ih2)
   | (with_reducible apply ih3)
   | (with_reducible apply ih4)
   | (with_reducible exact slices_Reverse_int_int.mono _ _)
   | (with_reducible exact LeO.refl _)
   | (with_reducible exact LeO.none _)
   | (with_reducible refine LeO.ite ?_ ?_)
   | (with_reducible refine LeO.bind ?_ (fun _ => ?_))
   | apply ih0
   | apply ih1
   | apply ih2
   | apply ih3
   | apply ih4
   | exact slices_Reverse_int_int.mono _ _
   | exact LeO.none _
   | refine LeO.ite ?_ ?_
   | refine LeO.bind ?_ (fun _ => ?_)
  ·intro y0 y1 y2 y3 y4 y5 y6 y7 y8 y9 y10 y11 y12 y13
   unfold impl_tray_lines.j4
   repeat' first
   | (with_reducible apply ih0)
   | (with_reducible apply ih1)
   | (with_reducible apply ih2)
   | (with_reducible apply ih3)
   | (with_reducible apply ih4)
   | (with_reducible exact slices_Reverse_int_int.mono _ _)
   | (with_reducible exact LeO.refl _)
   | (with_reducible exact LeO.none _)
   | (with_reducible refine LeO.ite ?_ ?_)
   | (with_reducible refine LeO.bind ?_ (fun _ => ?_))
   | apply ih0
   | apply ih1
   | apply ih2
   | apply ih3
   | apply ih4
   | exact slices_Reverse_int_int.mono _ _
   | exact LeO.none _
   | refine LeO.ite ?_ ?_
   | refine LeO.bind ?_ (fun _ => ?_)
theorem impl_tray_lines.mono : ∀ a0 a1 a2 a3 k, LeO (impl_tray_lines.f k a0 a1 a2 a3) (impl_tray_lines.f (k + 1) a0 a1 a2 a3) := by
 intro a0 a1 a2 a3 k
 obtain ⟨ih0, ih1, ih2, ih3, ih4⟩ := impl_tray_lines.mono_l k
 unfold impl_tray_lines.f
 repeat' first
   | (with_reducible apply ih0)
   | (with_reducible apply ih1)
   | (with_reducible apply ih2)
   | (with_reducible apply ih3)
   | (with_reducible apply ih4)
   | (with_reducible exact slices_Reverse_int_int.mono _ _)
   | (with_reducible exact LeO.refl _)
   | (with_reducible exact LeO.none _)
   | (with_reducible refine LeO.ite ?_ ?_)
   | (with_reducible refine LeO.bind ?_ (fun _ => ?_))
   | apply ih0
   | apply ih1
   | apply ih2
   | apply ih3
   | apply ih4
   | exact slices_Reverse_int_int.mono _ _
   | exact LeO.none _
   | refine LeO.ite ?_ ?_
   | refine LeO.bind ?_ (fun _ => ?_)
set_option maxHeartbeats 8000000 in
set_option maxRecDepth 100000 in
theorem impl_tray_lines.calls (k : Nat) (a0_0 : Int) (a0_1 : Int) (A0_2 : Option Addr) (c0_2 : Nat) (l0_2 : List Int) (a1 : Int) (r : List (List Int)) (w : World) (hr0_2 : Kd.C (Kd.int .u8) w A0_2 l0_2.length l0_2) (hc0_2 : l0_2.length ≤ c0_2) (h : impl_tray_lines.f k a0_0 a0_1 l0_2 a1 = some r) :
  Calls Tryz.prog 109 #[.agg #[.int .i64 a0_0, .int .i64 a0_1, .slice A0_2 l0_2.length c0_2], .int .u8 a1] w fun e w' => ∃ v0_ : Value, e = .returned (v0_) ∧ Kd.S (Kd.slice 3 (Kd.int .i64)) 22 w' w.heap.size (fun _ => True) v0_ r ∧ Below w.heap.size w w' := by
 have hu75 := Tryz.underlying75
 have HR0_2 := Aside0.mk hr0_2
 have HC0_2 := Aside0.mk hc0_2
 clear hr0_2 hc0_2
 have HB := Aside0.mk (Below.refl w.heap.size w)
 have H : ((some (([] : List (List Int)) : List (List Int))).bind fun y102 => (if a1 = 117 then (impl_tray_lines.j0 k a1 y102 a0_1 a0_0 true a0_0 a0_1 l0_2) else (impl_tray_lines.j0 k a1 y102 a0_1 a0_0 (a1 == 100) a0_0 a0_1 l0_2))) = some r := h
 clear h
 obtain ⟨y102, hy102⟩ : ∃ y_ : List (List Int), y_ = (([] : List (List Int))) := ⟨_, rfl⟩
 replace H : (if a1 = 117 then (impl_tray_lines.j0 k a1 y102 a0_1 a0_0 true a0_0 a0_1 l0_2) else (impl_tray_lines.j0 k a1 y102 a0_1 a0_0 (a1 == 100) a0_0 a0_1 l0_2)) = some r := rH hy102 H
 have Ny102 := Aside0.mk hy102
 clear hy102
 have HC3 := Aside0.mk H
 clear H
 go_enter Tryz.func109, Tryz.ntmps109
 go_upto_region 3 with (first | ((with_reducible refine gate_dst (N := 2) rfl ?_); refine boxE (N := 2) (cs := #[.int .i64 a0_0, .int .i64 a0_1, .slice A0_2 l0_2.length c0_2]) (t := 75) ?_; intro gb101 hg w4 hbox hb; have n0_ := Aside0.mk (below_step (bel HB) hb); have n1_ := Aside0.mk (hbox); have n2_ := Aside0.mk (gsz hg (bel HB)); have n3_ := Aside0.mk (gsz hg (bel HB)); clear HB; have HB := n0_; have BK101 := n1_; have GW101 := n2_; have GE101 := n3_; clear n0_ n1_ n2_ n3_; clear hb hbox hg) | ((with_reducible refine gate_dst (N := 11) rfl ?_); refine Kd.S_lit (Kd.slice 3 (Kd.int .i64)) _ 22 ?hg (N := 11) ?hd (xs := ([] : List (List Int))) (inner := []) (ok := fun _ => True) (okp := fun _ => True) ?hr ?hp (fun _ hk => hk) trivial (Below.refl _ _) (Nat.le_refl _) (by simp) ?_; (case hd => rfl); (case hg => rfl); (case hr => first | (go_simp; done) | (go_simp; rfl)); (case hp => exact (Reps.none _ _)); intro v103 w5 ho6 hb hg_ hnew_; clear hg_ hnew_; (first | rw [← Ny102.out] at ho6 | (simp only [Int.reduceToNat] at ho6; rw [← Ny102.out] at ho6)); have n0_ := Aside0.mk (Kd.S_lower ho6 (below_size (bel HB))); have n1_ := Aside0.mk (blk_below (g := gb101) (o := .cells #[.int .i64 a0_0, .int .i64 a0_1, .slice A0_2 l0_2.length c0_2] 75 (0, 0)) blc hb); have n2_ := Aside0.mk (below_step (bel HB) hb); clear BK101; clear HB; have HO104 := n0_; have BK101 := n1_; have HB := n2_; clear n0_ n1_ n2_; clear hb ho6; have hcz7_0 : w5.cell? ⟨gb101, 0, none⟩ = some (.int .i64 a0_0) := (blk_cell BK101.out 0).trans rfl; have hcz7_1 : w5.cell? ⟨gb101, 1, none⟩ = some (.int .i64 a0_1) := (blk_cell BK101.out 1).trans rfl; have hcz7_2 : w5.cell? ⟨gb101, 2, none⟩ = some (.slice A0_2 l0_2.length c0_2) := (blk_cell BK101.out 2).trans rfl; have hfz7_0 := blk_frozen BK101.out 0; have hfz7_1 := blk_frozen BK101.out 1; have hfz7_2 := blk_frozen BK101.out 2))
 repeat (go_quiet (first | ((with_reducible refine gate_dst (N := 2) rfl ?_); refine boxE (N := 2) (cs := #[.int .i64 a0_0, .int .i64 a0_1, .slice A0_2 l0_2.length c0_2]) (t := 75) ?_; intro gb101 hg w4 hbox hb; have n0_ := Aside0.mk (below_step (bel HB) hb); have n1_ := Aside0.mk (hbox); have n2_ := Aside0.mk (gsz hg (bel HB)); have n3_ := Aside0.mk (gsz hg (bel HB)); clear HB; have HB := n0_; have BK101 := n1_; have GW101 := n2_; have GE101 := n3_; clear n0_ n1_ n2_ n3_; clear hb hbox hg) | ((with_reducible refine gate_dst (N := 11) rfl ?_); refine Kd.S_lit (Kd.slice 3 (Kd.int .i64)) _ 22 ?hg (N := 11) ?hd (xs := ([] : List (List Int))) (inner := []) (ok := fun _ => True) (okp := fun _ => True) ?hr ?hp (fun _ hk => hk) trivial (Below.refl _ _) (Nat.le_refl _) (by simp) ?_; (case hd => rfl); (case hg => rfl); (case hr => first | (go_simp; done) | (go_simp; rfl)); (case hp => exact (Reps.none _ _)); intro v103 w5 ho6 hb hg_ hnew_; clear hg_ hnew_; (first | rw [← Ny102.out] at ho6 | (simp only [Int.reduceToNat] at ho6; rw [← Ny102.out] at ho6)); have n0_ := Aside0.mk (Kd.S_lower ho6 (below_size (bel HB))); have n1_ := Aside0.mk (blk_below (g := gb101) (o := .cells #[.int .i64 a0_0, .int .i64 a0_1, .slice A0_2 l0_2.length c0_2] 75 (0, 0)) blc hb); have n2_ := Aside0.mk (below_step (bel HB) hb); clear BK101; clear HB; have HO104 := n0_; have BK101 := n1_; have HB := n2_; clear n0_ n1_ n2_; clear hb ho6; have hcz7_0 : w5.cell? ⟨gb101, 0, none⟩ = some (.int .i64 a0_0) := (blk_cell BK101.out 0).trans rfl; have hcz7_1 : w5.cell? ⟨gb101, 1, none⟩ = some (.int .i64 a0_1) := (blk_cell BK101.out 1).trans rfl; have hcz7_2 : w5.cell? ⟨gb101, 2, none⟩ = some (.slice A0_2 l0_2.length c0_2) := (blk_cell BK101.out 2).trans rfl; have hfz7_0 := blk_frozen BK101.out 0; have hfz7_1 := blk_frozen BK101.out 1; have hfz7_2 := blk_frozen BK101.out 2)); go_upto_region 3 with (first | ((with_reducible refine gate_dst (N := 2) rfl ?_); refine boxE (N := 2) (cs := #[.int .i64 a0_0, .int .i64 a0_1, .slice A0_2 l0_2.length c0_2]) (t := 75) ?_; intro gb101 hg w4 hbox hb; have n0_ := Aside0.mk (below_step (bel HB) hb); have n1_ := Aside0.mk (hbox); have n2_ := Aside0.mk (gsz hg (bel HB)); have n3_ := Aside0.mk (gsz hg (bel HB)); clear HB; have HB := n0_; have BK101 := n1_; have GW101 := n2_; have GE101 := n3_; clear n0_ n1_ n2_ n3_; clear hb hbox hg) | ((with_reducible refine gate_dst (N := 11) rfl ?_); refine Kd.S_lit (Kd.slice 3 (Kd.int .i64)) _ 22 ?hg (N := 11) ?hd (xs := ([] : List (List Int))) (inner := []) (ok := fun _ => True) (okp := fun _ => True) ?hr ?hp (fun _ hk => hk) trivial (Below.refl _ _) (Nat.le_refl _) (by simp) ?_; (case hd => rfl); (case hg => rfl); (case hr => first | (go_simp; done) | (go_simp; rfl)); (case hp => exact (Reps.none _ _)); intro v103 w5 ho6 hb hg_ hnew_; clear hg_ hnew_; (first | rw [← Ny102.out] at ho6 | (simp only [Int.reduceToNat] at ho6; rw [← Ny102.out] at ho6)); have n0_ := Aside0.mk (Kd.S_lower ho6 (below_size (bel HB))); have n1_ := Aside0.mk (blk_below (g := gb101) (o := .cells #[.int .i64 a0_0, .int .i64 a0_1, .slice A0_2 l0_2.length c0_2] 75 (0, 0)) blc hb); have n2_ := Aside0.mk (below_step (bel HB) hb); clear BK101; clear HB; have HO104 := n0_; have BK101 := n1_; have HB := n2_; clear n0_ n1_ n2_; clear hb ho6; have hcz7_0 : w5.cell? ⟨gb101, 0, none⟩ = some (.int .i64 a0_0) := (blk_cell BK101.out 0).trans rfl; have hcz7_1 : w5.cell? ⟨gb101, 1, none⟩ = some (.int .i64 a0_1) := (blk_cell BK101.out 1).trans rfl; have hcz7_2 : w5.cell? ⟨gb101, 2, none⟩ = some (.slice A0_2 l0_2.length c0_2) := (blk_cell BK101.out 2).trans rfl; have hfz7_0 := blk_frozen BK101.out 0; have hfz7_1 := blk_frozen BK101.out 1; have hfz7_2 := blk_frozen BK101.out 2)))
 (try simp only [Act.put, List.setIfInBounds_toArray, List.set_cons_zero, List.set_cons_succ])
 go_cut [21] (fun v21 wc => ∃ (kq : Nat) (x21_2 : Bool), v21 = .bool x21_2 ∧ Aside0 (impl_tray_lines.j0 kq a1 y102 a0_1 a0_0 x21_2 a0_0 a0_1 l0_2 = some r) ∧ Aside0 (kq ≤ k) ∧ Aside0 (Kd.S (Kd.slice 3 (Kd.int .i64)) 22 wc w.heap.size (fun _ => True) v103 y102) ∧ Aside0 (wc.heap[gb101]? = some (.cells #[.int .i64 a0_0, .int .i64 a0_1, (.slice A0_2 l0_2.length c0_2)] 75 (0, 0))) ∧ Aside0 (Below w.heap.size w wc))
 case first =>
  have H := HC3.out
  clear HC3
  by_cases c8 : a1 = 117
  ·rw [if_pos c8] at H
   have c8b0 : (a1 == 117) = true := beq_iff_eq.mpr c8
   have c8b1 : (a1 != 117) = false := bne_eq_false_iff_eq.mpr c8
   clear c8
   (first | rw [c8b0] | (simp only [i64_w, i32_w]; rw [c8b0]) | skip)
   have H' := Aside0.mk H
   clear H
   go_wp2
   repeat (go_quiet (fail); try go_wp2)
   go_meet
   case rel => exact ⟨_, (true), (by first | rfl | (simp; done) | (simp [*]; done)), H', ⟨by first | omega | exact Nat.le_refl _⟩, ⟨by (with_reducible repeat (first | apply Kd.S_alloc | apply Kd.S_drewN | apply Kd.S_drew)); (first | exact HO104.out | exact R_any HO104.out)⟩, ⟨blc⟩, ⟨bel HB⟩⟩
  ·rw [if_neg c8] at H
   have c8b0 : (a1 == 117) = false := beq_eq_false_iff_ne.mpr c8
   have c8b1 : (a1 != 117) = true := bne_iff_ne.mpr c8
   (first | rw [c8b0] | (simp only [i64_w, i32_w]; rw [c8b0]) | skip)
   have H' := Aside0.mk H
   clear H
   go_wp2
   repeat (go_quiet (fail); try go_wp2)
   go_meet
   case rel => exact ⟨_, ((a1 == 100)), (by first | rfl | (simp; done) | (simp [*]; done)), H', ⟨by first | omega | exact Nat.le_refl _⟩, ⟨by (with_reducible repeat (first | apply Kd.S_alloc | apply Kd.S_drewN | apply Kd.S_drew)); (first | exact HO104.out | exact R_any HO104.out)⟩, ⟨blc⟩, ⟨bel HB⟩⟩
 case rest =>
  clear HC3
  try clear c1
  try clear p2
  try clear c8
  try clear c8b0
  try clear c8b0y
  try clear c8b1
  try clear hcz7_0
  try clear hcz7_1
  try clear hcz7_2
  try clear hfz7_0
  try clear hfz7_1
  try clear hfz7_2
  obtain ⟨kq, x21_2, rfl, HA, HJ2, HO_5, BK101, HB⟩ := hcut
  cases kq with
  | zero => exact absurd HA.out (by simp [impl_tray_lines.j0])
  | succ kj2 =>
   have H := HA.out
   clear HA
   simp only [impl_tray_lines.j0] at H
   have HC9 := Aside0.mk H
   clear H
   go_upto_if 21 with (fail)
   repeat (go_quiet (fail); go_upto_if 21 with (fail))
   go_cut [6, 7] (fun v6 v7 wc => ∃ (kq : Nat) (x6_8 : Int) (x7_8 : Int), v6 = .int .i64 x6_8 ∧ v7 = .int .i64 x7_8 ∧ Aside0 (impl_tray_lines.j1 kq a1 y102 x6_8 x7_8 a0_0 a0_1 l0_2 = some r) ∧ Aside0 (kq ≤ kj2) ∧ Aside0 (Kd.S (Kd.slice 3 (Kd.int .i64)) 22 wc w.heap.size (fun _ => True) v103 y102) ∧ Aside0 (wc.heap[gb101]? = some (.cells #[.int .i64 a0_0, .int .i64 a0_1, (.slice A0_2 l0_2.length c0_2)] 75 (0, 0))) ∧ Aside0 (Below w.heap.size w wc))
   case first =>
    have H := HC9.out
    clear HC9
    by_cases c10 : x21_2 = true
    ·subst c10
     have H1 : (impl_tray_lines.j1 kj2 a1 y102 a0_0 a0_1 a0_0 a0_1 l0_2) = some r := by rw [if_pos rfl] at H; exact H
     clear H
     have H := H1
     clear H1
     have H' := Aside0.mk H
     clear H
     have hcz11_0 : wc.cell? ⟨gb101, 0, none⟩ = some (.int .i64 a0_0) := (blk_cell BK101.out 0).trans rfl
     have hcz11_1 : wc.cell? ⟨gb101, 1, none⟩ = some (.int .i64 a0_1) := (blk_cell BK101.out 1).trans rfl
     have hcz11_2 : wc.cell? ⟨gb101, 2, none⟩ = some (.slice A0_2 l0_2.length c0_2) := (blk_cell BK101.out 2).trans rfl
     have hfz11_0 := blk_frozen BK101.out 0
     have hfz11_1 := blk_frozen BK101.out 1
     have hfz11_2 := blk_frozen BK101.out 2
     go_wp2
     repeat (go_quiet (fail); try go_wp2)
     go_meet
     case rel => exact ⟨_, (a0_0), (a0_1), (by first | rfl | (simp; done) | (simp [*]; done)), (by first | rfl | (simp; done) | (simp [*]; done)), H', ⟨by have := HJ2.out; first | omega | exact Nat.le_refl _⟩, ⟨by (with_reducible repeat (first | apply Kd.S_alloc | apply Kd.S_drewN | apply Kd.S_drew)); (first | exact HO_5.out | exact R_any HO_5.out)⟩, ⟨blc⟩, ⟨bel HB⟩⟩
    ·replace c10 := Bool.eq_false_iff.mpr c10
     subst c10
     have H1 : (impl_tray_lines.j1 kj2 a1 y102 a0_1 a0_0 a0_0 a0_1 l0_2) = some r := by rw [if_neg (show ¬ (false = true) by decide)] at H; exact H
     clear H
     have H := H1
     clear H1
     have H' := Aside0.mk H
     clear H
     go_wp2
     repeat (go_quiet (fail); try go_wp2)
     go_meet
     case rel => exact ⟨_, (a0_1), (a0_0), (by first | rfl | (simp; done) | (simp [*]; done)), (by first | rfl | (simp; done) | (simp [*]; done)), H', ⟨by have := HJ2.out; first | omega | exact Nat.le_refl _⟩, ⟨by (with_reducible repeat (first | apply Kd.S_alloc | apply Kd.S_drewN | apply Kd.S_drew)); (first | exact HO_5.out | exact R_any HO_5.out)⟩, ⟨blc⟩, ⟨bel HB⟩⟩
   case rest =>
    clear HC9
    try clear c1
    try clear p2
    try clear c8
    try clear c8b0
    try clear c8b0y
    try clear c8b1
    try clear c10
    try clear hcz11_0
    try clear hcz11_1
    try clear hcz11_2
    try clear hcz7_0
    try clear hcz7_1
    try clear hcz7_2
    try clear hfz11_0
    try clear hfz11_1
    try clear hfz11_2
    try clear hfz7_0
    try clear hfz7_1
    try clear hfz7_2
    try clear p2
    obtain ⟨kq, x6_8, x7_8, rfl, rfl, HA, HJ8, HO_5, BK101, HB⟩ := hcut
    cases kq with
    | zero => exact absurd HA.out (by simp [impl_tray_lines.j1])
    | succ kj8 =>
     have H := HA.out
     clear HA
     simp only [impl_tray_lines.j1] at H
     have H' := Aside0.mk H
     clear H
     go_wp2
     repeat (go_quiet (fail); try go_wp2)
     go_loopg [5, 27] kj8 (fun kq v5 v27 w' => ∃ (x5_3 : List (List Int)) (x27_3 : Int), v27 = .int .i64 x27_3 ∧ Aside0 (impl_tray_lines.l0 kq a1 x5_3 x7_8 x6_8 x27_3 a0_0 a0_1 l0_2 = some r) ∧ Aside0 (kq ≤ kj8) ∧ Aside0 (Kd.S (Kd.slice 3 (Kd.int .i64)) 22 w' w.heap.size (fun _ => True) v5 x5_3) ∧ Aside0 (w'.heap[gb101]? = some (.cells #[.int .i64 a0_0, .int .i64 a0_1, (.slice A0_2 l0_2.length c0_2)] 75 (0, 0))) ∧ Aside0 (Below w.heap.size w w'))
     case atStart => exact ⟨(y102), (0), (by first | rfl | (simp; done) | (simp [*]; done)), H', ⟨Nat.le_refl _⟩, ⟨by (with_reducible repeat (first | apply Kd.S_alloc | apply Kd.S_drewN | apply Kd.S_drew)); (first | exact HO_5.out | exact R_any HO_5.out)⟩, ⟨blc⟩, ⟨bel HB⟩⟩
     case round =>
      clear H'
      try clear c1
      try clear p2
      try clear c8
      try clear c8b0
      try clear c8b0y
      try clear c8b1
      try clear c10
      try clear hcz11_0
      try clear hcz11_1
      try clear hcz11_2
      try clear hcz7_0
      try clear hcz7_1
      try clear hcz7_2
      try clear hfz11_0
      try clear hfz11_1
      try clear hfz11_2
      try clear hfz7_0
      try clear hfz7_1
      try clear hfz7_2
      try clear p2
      obtain ⟨x5_3, x27_3, rfl, HA, HK3, HO_5, BK101, HB⟩ := hrel
      cases gk with
      | zero => exact absurd HA.out (by simp [impl_tray_lines.l0])
      | succ k3 =>
       have H := HA.out
       clear HA
       simp only [impl_tray_lines.l0] at H
       by_cases c12 : x27_3 < x6_8
       ·rw [if_pos c12] at H
        have c12b0 : decide (x27_3 < x6_8) = true := decide_eq_true c12
        clear c12
        obtain ⟨y105, hy105⟩ : ∃ y_ : List Int, y_ = (([] : List Int)) := ⟨_, rfl⟩
        replace H : (impl_tray_lines.l1 k3 a1 x5_3 x7_8 x27_3 y105 x6_8 x27_3 x7_8 0 a0_0 a0_1 l0_2) = some r := rH hy105 H
        have Ny105 := Aside0.mk hy105
        clear hy105
        have H' := Aside0.mk H
        clear H
        go_wp2_with (first | ((with_reducible refine gate_dst (N := 30) rfl ?_); refine R_litG (Kd.int .i64) _ 3 ?hg (N := 30) ?hd (xs := ([] : List Int)) (inner := []) (ok := fun _ => True) (okp := fun _ => True) ?hr ?hp (fun _ hk => hk) trivial (Below.refl _ _) (Nat.le_refl _) (by simp) ?_; (case hd => rfl); (case hg => first | rfl | decide | (simp [Region.wanted, yielded]; done) | (go_simp; done)); (case hr => first | (go_simp; done) | (go_simp; rfl)); (case hp => exact (Reps.none _ _)); intro v106 w13 ho14 hb hg_ hnew_; clear hg_ hnew_; (first | rw [← Ny105.out] at ho14 | (simp only [Int.reduceToNat] at ho14; rw [← Ny105.out] at ho14)); have n0_ := Aside0.mk (Kd.S_elder' (by (with_reducible repeat (first | apply Kd.S_alloc | apply Kd.S_drewN | apply Kd.S_drew)); (first | exact HO_5.out | exact R_any HO_5.out)) (Kd.R_base ho14) hb); have n1_ := Aside0.mk (Kd.R_lower ho14 (below_size (bel HB))); have n2_ := Aside0.mk (blk_below (g := gb101) (o := .cells #[.int .i64 a0_0, .int .i64 a0_1, .slice A0_2 l0_2.length c0_2] 75 (0, 0)) blc hb); have n3_ := Aside0.mk (below_step (bel HB) hb); clear HO_5; clear BK101; clear HB; have HO_5 := n0_; have HO107 := n1_; have BK101 := n2_; have HB := n3_; clear n0_ n1_ n2_ n3_; clear hb ho14))
        repeat (go_quiet (first | ((with_reducible refine gate_dst (N := 30) rfl ?_); refine R_litG (Kd.int .i64) _ 3 ?hg (N := 30) ?hd (xs := ([] : List Int)) (inner := []) (ok := fun _ => True) (okp := fun _ => True) ?hr ?hp (fun _ hk => hk) trivial (Below.refl _ _) (Nat.le_refl _) (by simp) ?_; (case hd => rfl); (case hg => first | rfl | decide | (simp [Region.wanted, yielded]; done) | (go_simp; done)); (case hr => first | (go_simp; done) | (go_simp; rfl)); (case hp => exact (Reps.none _ _)); intro v106 w13 ho14 hb hg_ hnew_; clear hg_ hnew_; (first | rw [← Ny105.out] at ho14 | (simp only [Int.reduceToNat] at ho14; rw [← Ny105.out] at ho14)); have n0_ := Aside0.mk (Kd.S_elder' (by (with_reducible repeat (first | apply Kd.S_alloc | apply Kd.S_drewN | apply Kd.S_drew)); (first | exact HO_5.out | exact R_any HO_5.out)) (Kd.R_base ho14) hb); have n1_ := Aside0.mk (Kd.R_lower ho14 (below_size (bel HB))); have n2_ := Aside0.mk (blk_below (g := gb101) (o := .cells #[.int .i64 a0_0, .int .i64 a0_1, .slice A0_2 l0_2.length c0_2] 75 (0, 0)) blc hb); have n3_ := Aside0.mk (below_step (bel HB) hb); clear HO_5; clear BK101; clear HB; have HO_5 := n0_; have HO107 := n1_; have BK101 := n2_; have HB := n3_; clear n0_ n1_ n2_ n3_; clear hb ho14)); try go_wp2_with (first | ((with_reducible refine gate_dst (N := 30) rfl ?_); refine R_litG (Kd.int .i64) _ 3 ?hg (N := 30) ?hd (xs := ([] : List Int)) (inner := []) (ok := fun _ => True) (okp := fun _ => True) ?hr ?hp (fun _ hk => hk) trivial (Below.refl _ _) (Nat.le_refl _) (by simp) ?_; (case hd => rfl); (case hg => first | rfl | decide | (simp [Region.wanted, yielded]; done) | (go_simp; done)); (case hr => first | (go_simp; done) | (go_simp; rfl)); (case hp => exact (Reps.none _ _)); intro v106 w13 ho14 hb hg_ hnew_; clear hg_ hnew_; (first | rw [← Ny105.out] at ho14 | (simp only [Int.reduceToNat] at ho14; rw [← Ny105.out] at ho14)); have n0_ := Aside0.mk (Kd.S_elder' (by (with_reducible repeat (first | apply Kd.S_alloc | apply Kd.S_drewN | apply Kd.S_drew)); (first | exact HO_5.out | exact R_any HO_5.out)) (Kd.R_base ho14) hb); have n1_ := Aside0.mk (Kd.R_lower ho14 (below_size (bel HB))); have n2_ := Aside0.mk (blk_below (g := gb101) (o := .cells #[.int .i64 a0_0, .int .i64 a0_1, .slice A0_2 l0_2.length c0_2] 75 (0, 0)) blc hb); have n3_ := Aside0.mk (below_step (bel HB) hb); clear HO_5; clear BK101; clear HB; have HO_5 := n0_; have HO107 := n1_; have BK101 := n2_; have HB := n3_; clear n0_ n1_ n2_ n3_; clear hb ho14)))
        go_loopg [9, 32] k3 (fun kq v9 v32 w' => ∃ (x9_4 : List Int) (x32_4 : Int), v32 = .int .i64 x32_4 ∧ Aside0 (impl_tray_lines.l1 kq a1 x5_3 x7_8 x27_3 x9_4 x6_8 x27_3 x7_8 x32_4 a0_0 a0_1 l0_2 = some r) ∧ Aside0 (kq ≤ k3) ∧ Aside0 (Kd.S (Kd.slice 3 (Kd.int .i64)) 22 w' w.heap.size (fun k_ => some k_ ≠ (v9 : Value).ownBlock) u5 x5_3) ∧ Aside0 (Kd.R (Kd.int .i64) 3 w' w.heap.size (fun _ => True) v9 x9_4) ∧ Aside0 (w'.heap[gb101]? = some (.cells #[.int .i64 a0_0, .int .i64 a0_1, (.slice A0_2 l0_2.length c0_2)] 75 (0, 0))) ∧ Aside0 (Below w.heap.size w w'))
        case atStart => exact ⟨(y105), (0), (by first | rfl | (simp; done) | (simp [*]; done)), H', ⟨Nat.le_refl _⟩, ⟨by (with_reducible repeat (first | apply Kd.S_alloc | apply Kd.S_drewN | apply Kd.S_drew)); exact Kd.S_mono HO_5.out (fun _ hk => hk.2)⟩, ⟨rch HO107⟩, ⟨blc⟩, ⟨bel HB⟩⟩
        case round =>
         clear H'
         try clear c1
         try clear p2
         try clear c8
         try clear c8b0
         try clear c8b0y
         try clear c8b1
         try clear c10
         try clear c12
         try clear c12b0
         try clear c12b0y
         try clear hcz11_0
         try clear hcz11_1
         try clear hcz11_2
         try clear hcz7_0
         try clear hcz7_1
         try clear hcz7_2
         try clear hfz11_0
         try clear hfz11_1
         try clear hfz11_2
         try clear hfz7_0
         try clear hfz7_1
         try clear hfz7_2
         try clear p2
         obtain ⟨x9_4, x32_4, rfl, HA, HK4, HO_5, HO_9, BK101, HB⟩ := hrel
         cases gk with
         | zero => exact absurd HA.out (by simp [impl_tray_lines.l1])
         | succ k4 =>
          have H := HA.out
          clear HA
          simp only [impl_tray_lines.l1] at H
          by_cases c15 : x32_4 < x7_8
          ·rw [if_pos c15] at H
           have c15b0 : decide (x32_4 < x7_8) = true := decide_eq_true c15
           clear c15
           have HC16 := Aside0.mk H
           clear H
           go_upto_region 12 with (fail)
           repeat (go_quiet (fail); go_upto_region 12 with (fail))
           go_cut [40] (fun v40 wc => ∃ (kq : Nat) (x40_15 : Bool), v40 = .bool x40_15 ∧ Aside0 (impl_tray_lines.j4 kq a1 x5_3 x7_8 x27_3 x9_4 x32_4 x6_8 x27_3 x7_8 x32_4 x40_15 a0_0 a0_1 l0_2 = some r) ∧ Aside0 (kq ≤ k4) ∧ Aside0 (Kd.S (Kd.slice 3 (Kd.int .i64)) 22 wc w.heap.size (fun k_ => some k_ ≠ (u9 : Value).ownBlock) u5 x5_3) ∧ Aside0 (Kd.R (Kd.int .i64) 3 wc w.heap.size (fun _ => True) u9 x9_4) ∧ Aside0 (wc.heap[gb101]? = some (.cells #[.int .i64 a0_0, .int .i64 a0_1, (.slice A0_2 l0_2.length c0_2)] 75 (0, 0))) ∧ Aside0 (Below w.heap.size w wc))
           case first =>
            have H := HC16.out
            clear HC16
            by_cases c17 : a1 = 117
            ·rw [if_pos c17] at H
             have c17b0 : (a1 == 117) = true := beq_iff_eq.mpr c17
             have c17b1 : (a1 != 117) = false := bne_eq_false_iff_eq.mpr c17
             clear c17
             (first | rw [c17b0] | (simp only [i64_w, i32_w]; rw [c17b0]) | skip)
             have H' := Aside0.mk H
             clear H
             go_wp2
             repeat (go_quiet (fail); try go_wp2)
             go_meet
             case rel => exact ⟨_, (true), (by first | rfl | (simp; done) | (simp [*]; done)), H', ⟨by have := HJ2.out; have := HJ8.out; have := HK3.out; have := HK4.out; first | omega | exact Nat.le_refl _⟩, ⟨by (with_reducible repeat (first | apply Kd.S_alloc | apply Kd.S_drewN | apply Kd.S_drew)); (first | exact HO_5.out | exact R_any HO_5.out)⟩, ⟨rch HO_9⟩, ⟨blc⟩, ⟨bel HB⟩⟩
            ·rw [if_neg c17] at H
             have c17b0 : (a1 == 117) = false := beq_eq_false_iff_ne.mpr c17
             have c17b1 : (a1 != 117) = true := bne_iff_ne.mpr c17
             (first | rw [c17b0] | (simp only [i64_w, i32_w]; rw [c17b0]) | skip)
             have H' := Aside0.mk H
             clear H
             go_wp2
             repeat (go_quiet (fail); try go_wp2)
             go_meet
             case rel => exact ⟨_, ((a1 == 100)), (by first | rfl | (simp; done) | (simp [*]; done)), H', ⟨by have := HJ2.out; have := HJ8.out; have := HK3.out; have := HK4.out; first | omega | exact Nat.le_refl _⟩, ⟨by (with_reducible repeat (first | apply Kd.S_alloc | apply Kd.S_drewN | apply Kd.S_drew)); (first | exact HO_5.out | exact R_any HO_5.out)⟩, ⟨rch HO_9⟩, ⟨blc⟩, ⟨bel HB⟩⟩
           case rest =>
            clear HC16
            try clear c1
            try clear p2
            try clear c8
            try clear c8b0
            try clear c8b0y
            try clear c8b1
            try clear c10
            try clear c12
            try clear c12b0
            try clear c12b0y
            try clear c15
            try clear c15b0
            try clear c15b0y
            try clear c17
            try clear c17b0
            try clear c17b0y
            try clear c17b1
            try clear hcz11_0
            try clear hcz11_1
            try clear hcz11_2
            try clear hcz7_0
            try clear hcz7_1
            try clear hcz7_2
            try clear hfz11_0
            try clear hfz11_1
            try clear hfz11_2
            try clear hfz7_0
            try clear hfz7_1
            try clear hfz7_2
            try clear p2
            obtain ⟨kq, x40_15, rfl, HA, HJ15, HO_5, HO_9, BK101, HB⟩ := hcut
            cases kq with
            | zero => exact absurd HA.out (by simp [impl_tray_lines.j4])
            | succ kj15 =>
             have H := HA.out
             clear HA
             simp only [impl_tray_lines.j4] at H
             by_cases c18 : x40_15 = true
             ·subst c18
              have H1 : ((impl_tray_number.f a0_0 a0_1 l0_2 x27_3 x32_4).bind fun t119 => (if x9_4.length < 17592186044416 then (impl_tray_lines.l1 kj15 a1 x5_3 x7_8 x27_3 (x9_4 ++ [t119]) x6_8 x27_3 x7_8 (wrap64 (x32_4 + 1)) a0_0 a0_1 l0_2) else (none))) = some r := by rw [if_pos rfl] at H; exact H
              clear H
              have H := H1
              clear H1
              replace H := Option.bind_eq_some_iff.mp H
              obtain ⟨t119, A190, H⟩ := H
              replace H : (if x9_4.length < 17592186044416 then (impl_tray_lines.l1 kj15 a1 x5_3 x7_8 x27_3 (x9_4 ++ [t119]) x6_8 x27_3 x7_8 (wrap64 (x32_4 + 1)) a0_0 a0_1 l0_2) else (none)) = some r := H
              have A19 := Aside0.mk A190
              clear A190
              by_cases c20 : x9_4.length < 17592186044416
              ·rw [if_pos c20] at H
               have LMc20 := Aside0.mk c20
               clear c20
               obtain ⟨y120, hy120⟩ : ∃ y_ : List Int, y_ = (x9_4 ++ [t119]) := ⟨_, rfl⟩
               replace H : (impl_tray_lines.l1 kj15 a1 x5_3 x7_8 x27_3 y120 x6_8 x27_3 x7_8 (wrap64 (x32_4 + 1)) a0_0 a0_1 l0_2) = some r := rH hy120 H
               have Ny120 := Aside0.mk hy120
               clear hy120
               have H' := Aside0.mk H
               clear H
               have hcz21_0 : wc.cell? ⟨gb101, 0, none⟩ = some (.int .i64 a0_0) := (blk_cell BK101.out 0).trans rfl
               have hcz21_1 : wc.cell? ⟨gb101, 1, none⟩ = some (.int .i64 a0_1) := (blk_cell BK101.out 1).trans rfl
               have hcz21_2 : wc.cell? ⟨gb101, 2, none⟩ = some (.slice A0_2 l0_2.length c0_2) := (blk_cell BK101.out 2).trans rfl
               have hfz21_0 := blk_frozen BK101.out 0
               have hfz21_1 := blk_frozen BK101.out 1
               have hfz21_2 := blk_frozen BK101.out 2
               go_wp2_with (first | (go_at_call 124; (with_reducible refine (impl_tray_number.calls a0_0 a0_1 _ _ l0_2 x27_3 x32_4 t119 _ ?side1 ?side2 A19.out).mono ?_); (case side1 => repeat (first | exact (Kd.C_below HR0_2.out HB.out) | (with_reducible refine Kd.C_alloc ?_ _) | (with_reducible refine Kd.C_drewN ?_ _) | (with_reducible refine Kd.C_drew ?_))); (case side2 => exact HC0_2.out); rintro e w22 ⟨rfl, hb⟩; have n0_ := Aside0.mk (Kd.S_below (by (with_reducible repeat (first | apply Kd.S_alloc | apply Kd.S_drewN | apply Kd.S_drew)); (first | exact HO_5.out | exact R_any HO_5.out)) hb); have n1_ := Aside0.mk (Kd.R_below (rch HO_9) hb); have n2_ := Aside0.mk (blk_below (g := gb101) (o := .cells #[.int .i64 a0_0, .int .i64 a0_1, .slice A0_2 l0_2.length c0_2] 75 (0, 0)) blc hb); have n3_ := Aside0.mk (below_step (bel HB) hb); clear HO_5; clear HO_9; clear BK101; clear HB; have HO_5 := n0_; have HO_9 := n1_; have BK101 := n2_; have HB := n3_; clear n0_ n1_ n2_ n3_; (try clear hb); (try clear hb2); (try clear hk); (try clear hi)) | ((with_reducible refine gate_builtin (b := .append) (xs := #[.tmp 41, .tmp 46]) rfl ?_); at_builtin; refine Kd.R_append (Kd.int .i64) (w0 := w) w.heap.size rfl (.tmp 41) (.tmp 46) 22 3 (.int .i64 0) 8 rfl Tryz.underlying22 info3 rfl (by decide) (by omega) u9 x9_4 t119 [.int .i64 t119] (fun _ => True) (fun _ => False) rfl rfl ?aP (fun _ hk => hk.elim) ?aF ?aO ?aB ?aS ?aL ?_; (case aP => exact rfl); (case aB => exact (bel HB)); (case aF => exact (fun _ _ => trivial)); (case aO => exact (rch HO_9)); (case aS => exact (below_size (bel HB))); (case aL => have := LMc20.out; omega); intro v121 w23 ho hb hg hat; rw [← Ny120.out] at ho; have n0_ := Aside0.mk (Kd.S_after (ok := (fun _ => True)) (by (with_reducible repeat (first | apply Kd.S_alloc | apply Kd.S_drewN | apply Kd.S_drew)); exact Kd.S_mono HO_5.out (fun _ hk => ⟨trivial, hk⟩)) hg hat); have n1_ := Aside0.mk (blk_grown (g := gb101) (o := .cells #[.int .i64 a0_0, .int .i64 a0_1, .slice A0_2 l0_2.length c0_2] 75 (0, 0)) blc hg (Kd.R_ne HO_9.out BK101.out (by decide))); have n2_ := Aside0.mk (hb); have n3_ := Aside0.mk (ho); clear HO_5; clear BK101; clear HB; clear HO_9; have HO_5 := n0_; have BK101 := n1_; have HB := n2_; have HO122 := n3_; clear n0_ n1_ n2_ n3_; clear ho hb hg hat))
               repeat (go_quiet (first | (go_at_call 124; (with_reducible refine (impl_tray_number.calls a0_0 a0_1 _ _ l0_2 x27_3 x32_4 t119 _ ?side1 ?side2 A19.out).mono ?_); (case side1 => repeat (first | exact (Kd.C_below HR0_2.out HB.out) | (with_reducible refine Kd.C_alloc ?_ _) | (with_reducible refine Kd.C_drewN ?_ _) | (with_reducible refine Kd.C_drew ?_))); (case side2 => exact HC0_2.out); rintro e w22 ⟨rfl, hb⟩; have n0_ := Aside0.mk (Kd.S_below (by (with_reducible repeat (first | apply Kd.S_alloc | apply Kd.S_drewN | apply Kd.S_drew)); (first | exact HO_5.out | exact R_any HO_5.out)) hb); have n1_ := Aside0.mk (Kd.R_below (rch HO_9) hb); have n2_ := Aside0.mk (blk_below (g := gb101) (o := .cells #[.int .i64 a0_0, .int .i64 a0_1, .slice A0_2 l0_2.length c0_2] 75 (0, 0)) blc hb); have n3_ := Aside0.mk (below_step (bel HB) hb); clear HO_5; clear HO_9; clear BK101; clear HB; have HO_5 := n0_; have HO_9 := n1_; have BK101 := n2_; have HB := n3_; clear n0_ n1_ n2_ n3_; (try clear hb); (try clear hb2); (try clear hk); (try clear hi)) | ((with_reducible refine gate_builtin (b := .append) (xs := #[.tmp 41, .tmp 46]) rfl ?_); at_builtin; refine Kd.R_append (Kd.int .i64) (w0 := w) w.heap.size rfl (.tmp 41) (.tmp 46) 22 3 (.int .i64 0) 8 rfl Tryz.underlying22 info3 rfl (by decide) (by omega) u9 x9_4 t119 [.int .i64 t119] (fun _ => True) (fun _ => False) rfl rfl ?aP (fun _ hk => hk.elim) ?aF ?aO ?aB ?aS ?aL ?_; (case aP => exact rfl); (case aB => exact (bel HB)); (case aF => exact (fun _ _ => trivial)); (case aO => exact (rch HO_9)); (case aS => exact (below_size (bel HB))); (case aL => have := LMc20.out; omega); intro v121 w23 ho hb hg hat; rw [← Ny120.out] at ho; have n0_ := Aside0.mk (Kd.S_after (ok := (fun _ => True)) (by (with_reducible repeat (first | apply Kd.S_alloc | apply Kd.S_drewN | apply Kd.S_drew)); exact Kd.S_mono HO_5.out (fun _ hk => ⟨trivial, hk⟩)) hg hat); have n1_ := Aside0.mk (blk_grown (g := gb101) (o := .cells #[.int .i64 a0_0, .int .i64 a0_1, .slice A0_2 l0_2.length c0_2] 75 (0, 0)) blc hg (Kd.R_ne HO_9.out BK101.out (by decide))); have n2_ := Aside0.mk (hb); have n3_ := Aside0.mk (ho); clear HO_5; clear BK101; clear HB; clear HO_9; have HO_5 := n0_; have BK101 := n1_; have HB := n2_; have HO122 := n3_; clear n0_ n1_ n2_ n3_; clear ho hb hg hat)); try go_wp2_with (first | (go_at_call 124; (with_reducible refine (impl_tray_number.calls a0_0 a0_1 _ _ l0_2 x27_3 x32_4 t119 _ ?side1 ?side2 A19.out).mono ?_); (case side1 => repeat (first | exact (Kd.C_below HR0_2.out HB.out) | (with_reducible refine Kd.C_alloc ?_ _) | (with_reducible refine Kd.C_drewN ?_ _) | (with_reducible refine Kd.C_drew ?_))); (case side2 => exact HC0_2.out); rintro e w22 ⟨rfl, hb⟩; have n0_ := Aside0.mk (Kd.S_below (by (with_reducible repeat (first | apply Kd.S_alloc | apply Kd.S_drewN | apply Kd.S_drew)); (first | exact HO_5.out | exact R_any HO_5.out)) hb); have n1_ := Aside0.mk (Kd.R_below (rch HO_9) hb); have n2_ := Aside0.mk (blk_below (g := gb101) (o := .cells #[.int .i64 a0_0, .int .i64 a0_1, .slice A0_2 l0_2.length c0_2] 75 (0, 0)) blc hb); have n3_ := Aside0.mk (below_step (bel HB) hb); clear HO_5; clear HO_9; clear BK101; clear HB; have HO_5 := n0_; have HO_9 := n1_; have BK101 := n2_; have HB := n3_; clear n0_ n1_ n2_ n3_; (try clear hb); (try clear hb2); (try clear hk); (try clear hi)) | ((with_reducible refine gate_builtin (b := .append) (xs := #[.tmp 41, .tmp 46]) rfl ?_); at_builtin; refine Kd.R_append (Kd.int .i64) (w0 := w) w.heap.size rfl (.tmp 41) (.tmp 46) 22 3 (.int .i64 0) 8 rfl Tryz.underlying22 info3 rfl (by decide) (by omega) u9 x9_4 t119 [.int .i64 t119] (fun _ => True) (fun _ => False) rfl rfl ?aP (fun _ hk => hk.elim) ?aF ?aO ?aB ?aS ?aL ?_; (case aP => exact rfl); (case aB => exact (bel HB)); (case aF => exact (fun _ _ => trivial)); (case aO => exact (rch HO_9)); (case aS => exact (below_size (bel HB))); (case aL => have := LMc20.out; omega); intro v121 w23 ho hb hg hat; rw [← Ny120.out] at ho; have n0_ := Aside0.mk (Kd.S_after (ok := (fun _ => True)) (by (with_reducible repeat (first | apply Kd.S_alloc | apply Kd.S_drewN | apply Kd.S_drew)); exact Kd.S_mono HO_5.out (fun _ hk => ⟨trivial, hk⟩)) hg hat); have n1_ := Aside0.mk (blk_grown (g := gb101) (o := .cells #[.int .i64 a0_0, .int .i64 a0_1, .slice A0_2 l0_2.length c0_2] 75 (0, 0)) blc hg (Kd.R_ne HO_9.out BK101.out (by decide))); have n2_ := Aside0.mk (hb); have n3_ := Aside0.mk (ho); clear HO_5; clear BK101; clear HB; clear HO_9; have HO_5 := n0_; have BK101 := n1_; have HB := n2_; have HO122 := n3_; clear n0_ n1_ n2_ n3_; clear ho hb hg hat)))
               go_roundg kj15
               case measure => have := HJ2.out; have := HJ8.out; have := HK3.out; have := HK4.out; have := HJ15.out; omega
               case rel => exact ⟨(y120), (wrap64 (x32_4 + 1)), (by first | rfl | (simp; done) | (simp [*]; done)), H', ⟨by have := HJ2.out; have := HJ8.out; have := HK3.out; have := HK4.out; have := HJ15.out; omega⟩, ⟨by (with_reducible repeat (first | apply Kd.S_alloc | apply Kd.S_drewN | apply Kd.S_drew)); exact Kd.S_mono HO_5.out (fun _ hk => hk.2)⟩, ⟨rch HO122⟩, ⟨blc⟩, ⟨bel HB⟩⟩
              ·rw [if_neg c20] at H
               exact absurd H (by simp)
             ·replace c18 := Bool.eq_false_iff.mpr c18
              subst c18
              have H1 : ((impl_tray_number.f a0_0 a0_1 l0_2 x32_4 x27_3).bind fun t123 => (if x9_4.length < 17592186044416 then (impl_tray_lines.l1 kj15 a1 x5_3 x7_8 x27_3 (x9_4 ++ [t123]) x6_8 x27_3 x7_8 (wrap64 (x32_4 + 1)) a0_0 a0_1 l0_2) else (none))) = some r := by rw [if_neg (show ¬ (false = true) by decide)] at H; exact H
              clear H
              have H := H1
              clear H1
              replace H := Option.bind_eq_some_iff.mp H
              obtain ⟨t123, A240, H⟩ := H
              replace H : (if x9_4.length < 17592186044416 then (impl_tray_lines.l1 kj15 a1 x5_3 x7_8 x27_3 (x9_4 ++ [t123]) x6_8 x27_3 x7_8 (wrap64 (x32_4 + 1)) a0_0 a0_1 l0_2) else (none)) = some r := H
              have A24 := Aside0.mk A240
              clear A240
              by_cases c25 : x9_4.length < 17592186044416
              ·rw [if_pos c25] at H
               have LMc25 := Aside0.mk c25
               clear c25
               obtain ⟨y124, hy124⟩ : ∃ y_ : List Int, y_ = (x9_4 ++ [t123]) := ⟨_, rfl⟩
               replace H : (impl_tray_lines.l1 kj15 a1 x5_3 x7_8 x27_3 y124 x6_8 x27_3 x7_8 (wrap64 (x32_4 + 1)) a0_0 a0_1 l0_2) = some r := rH hy124 H
               have Ny124 := Aside0.mk hy124
               clear hy124
               have H' := Aside0.mk H
               clear H
               have hcz26_0 : wc.cell? ⟨gb101, 0, none⟩ = some (.int .i64 a0_0) := (blk_cell BK101.out 0).trans rfl
               have hcz26_1 : wc.cell? ⟨gb101, 1, none⟩ = some (.int .i64 a0_1) := (blk_cell BK101.out 1).trans rfl
               have hcz26_2 : wc.cell? ⟨gb101, 2, none⟩ = some (.slice A0_2 l0_2.length c0_2) := (blk_cell BK101.out 2).trans rfl
               have hfz26_0 := blk_frozen BK101.out 0
               have hfz26_1 := blk_frozen BK101.out 1
               have hfz26_2 := blk_frozen BK101.out 2
               go_wp2_with (first | (go_at_call 124; (with_reducible refine (impl_tray_number.calls a0_0 a0_1 _ _ l0_2 x32_4 x27_3 t123 _ ?side1 ?side2 A24.out).mono ?_); (case side1 => repeat (first | exact (Kd.C_below HR0_2.out HB.out) | (with_reducible refine Kd.C_alloc ?_ _) | (with_reducible refine Kd.C_drewN ?_ _) | (with_reducible refine Kd.C_drew ?_))); (case side2 => exact HC0_2.out); rintro e w27 ⟨rfl, hb⟩; have n0_ := Aside0.mk (Kd.S_below (by (with_reducible repeat (first | apply Kd.S_alloc | apply Kd.S_drewN | apply Kd.S_drew)); (first | exact HO_5.out | exact R_any HO_5.out)) hb); have n1_ := Aside0.mk (Kd.R_below (rch HO_9) hb); have n2_ := Aside0.mk (blk_below (g := gb101) (o := .cells #[.int .i64 a0_0, .int .i64 a0_1, .slice A0_2 l0_2.length c0_2] 75 (0, 0)) blc hb); have n3_ := Aside0.mk (below_step (bel HB) hb); clear HO_5; clear HO_9; clear BK101; clear HB; have HO_5 := n0_; have HO_9 := n1_; have BK101 := n2_; have HB := n3_; clear n0_ n1_ n2_ n3_; (try clear hb); (try clear hb2); (try clear hk); (try clear hi)) | ((with_reducible refine gate_builtin (b := .append) (xs := #[.tmp 48, .tmp 53]) rfl ?_); at_builtin; refine Kd.R_append (Kd.int .i64) (w0 := w) w.heap.size rfl (.tmp 48) (.tmp 53) 22 3 (.int .i64 0) 8 rfl Tryz.underlying22 info3 rfl (by decide) (by omega) u9 x9_4 t123 [.int .i64 t123] (fun _ => True) (fun _ => False) rfl rfl ?aP (fun _ hk => hk.elim) ?aF ?aO ?aB ?aS ?aL ?_; (case aP => exact rfl); (case aB => exact (bel HB)); (case aF => exact (fun _ _ => trivial)); (case aO => exact (rch HO_9)); (case aS => exact (below_size (bel HB))); (case aL => have := LMc25.out; omega); intro v125 w28 ho hb hg hat; rw [← Ny124.out] at ho; have n0_ := Aside0.mk (Kd.S_after (ok := (fun _ => True)) (by (with_reducible repeat (first | apply Kd.S_alloc | apply Kd.S_drewN | apply Kd.S_drew)); exact Kd.S_mono HO_5.out (fun _ hk => ⟨trivial, hk⟩)) hg hat); have n1_ := Aside0.mk (blk_grown (g := gb101) (o := .cells #[.int .i64 a0_0, .int .i64 a0_1, .slice A0_2 l0_2.length c0_2] 75 (0, 0)) blc hg (Kd.R_ne HO_9.out BK101.out (by decide))); have n2_ := Aside0.mk (hb); have n3_ := Aside0.mk (ho); clear HO_5; clear BK101; clear HB; clear HO_9; have HO_5 := n0_; have BK101 := n1_; have HB := n2_; have HO126 := n3_; clear n0_ n1_ n2_ n3_; clear ho hb hg hat))
               repeat (go_quiet (first | (go_at_call 124; (with_reducible refine (impl_tray_number.calls a0_0 a0_1 _ _ l0_2 x32_4 x27_3 t123 _ ?side1 ?side2 A24.out).mono ?_); (case side1 => repeat (first | exact (Kd.C_below HR0_2.out HB.out) | (with_reducible refine Kd.C_alloc ?_ _) | (with_reducible refine Kd.C_drewN ?_ _) | (with_reducible refine Kd.C_drew ?_))); (case side2 => exact HC0_2.out); rintro e w27 ⟨rfl, hb⟩; have n0_ := Aside0.mk (Kd.S_below (by (with_reducible repeat (first | apply Kd.S_alloc | apply Kd.S_drewN | apply Kd.S_drew)); (first | exact HO_5.out | exact R_any HO_5.out)) hb); have n1_ := Aside0.mk (Kd.R_below (rch HO_9) hb); have n2_ := Aside0.mk (blk_below (g := gb101) (o := .cells #[.int .i64 a0_0, .int .i64 a0_1, .slice A0_2 l0_2.length c0_2] 75 (0, 0)) blc hb); have n3_ := Aside0.mk (below_step (bel HB) hb); clear HO_5; clear HO_9; clear BK101; clear HB; have HO_5 := n0_; have HO_9 := n1_; have BK101 := n2_; have HB := n3_; clear n0_ n1_ n2_ n3_; (try clear hb); (try clear hb2); (try clear hk); (try clear hi)) | ((with_reducible refine gate_builtin (b := .append) (xs := #[.tmp 48, .tmp 53]) rfl ?_); at_builtin; refine Kd.R_append (Kd.int .i64) (w0 := w) w.heap.size rfl (.tmp 48) (.tmp 53) 22 3 (.int .i64 0) 8 rfl Tryz.underlying22 info3 rfl (by decide) (by omega) u9 x9_4 t123 [.int .i64 t123] (fun _ => True) (fun _ => False) rfl rfl ?aP (fun _ hk => hk.elim) ?aF ?aO ?aB ?aS ?aL ?_; (case aP => exact rfl); (case aB => exact (bel HB)); (case aF => exact (fun _ _ => trivial)); (case aO => exact (rch HO_9)); (case aS => exact (below_size (bel HB))); (case aL => have := LMc25.out; omega); intro v125 w28 ho hb hg hat; rw [← Ny124.out] at ho; have n0_ := Aside0.mk (Kd.S_after (ok := (fun _ => True)) (by (with_reducible repeat (first | apply Kd.S_alloc | apply Kd.S_drewN | apply Kd.S_drew)); exact Kd.S_mono HO_5.out (fun _ hk => ⟨trivial, hk⟩)) hg hat); have n1_ := Aside0.mk (blk_grown (g := gb101) (o := .cells #[.int .i64 a0_0, .int .i64 a0_1, .slice A0_2 l0_2.length c0_2] 75 (0, 0)) blc hg (Kd.R_ne HO_9.out BK101.out (by decide))); have n2_ := Aside0.mk (hb); have n3_ := Aside0.mk (ho); clear HO_5; clear BK101; clear HB; clear HO_9; have HO_5 := n0_; have BK101 := n1_; have HB := n2_; have HO126 := n3_; clear n0_ n1_ n2_ n3_; clear ho hb hg hat)); try go_wp2_with (first | (go_at_call 124; (with_reducible refine (impl_tray_number.calls a0_0 a0_1 _ _ l0_2 x32_4 x27_3 t123 _ ?side1 ?side2 A24.out).mono ?_); (case side1 => repeat (first | exact (Kd.C_below HR0_2.out HB.out) | (with_reducible refine Kd.C_alloc ?_ _) | (with_reducible refine Kd.C_drewN ?_ _) | (with_reducible refine Kd.C_drew ?_))); (case side2 => exact HC0_2.out); rintro e w27 ⟨rfl, hb⟩; have n0_ := Aside0.mk (Kd.S_below (by (with_reducible repeat (first | apply Kd.S_alloc | apply Kd.S_drewN | apply Kd.S_drew)); (first | exact HO_5.out | exact R_any HO_5.out)) hb); have n1_ := Aside0.mk (Kd.R_below (rch HO_9) hb); have n2_ := Aside0.mk (blk_below (g := gb101) (o := .cells #[.int .i64 a0_0, .int .i64 a0_1, .slice A0_2 l0_2.length c0_2] 75 (0, 0)) blc hb); have n3_ := Aside0.mk (below_step (bel HB) hb); clear HO_5; clear HO_9; clear BK101; clear HB; have HO_5 := n0_; have HO_9 := n1_; have BK101 := n2_; have HB := n3_; clear n0_ n1_ n2_ n3_; (try clear hb); (try clear hb2); (try clear hk); (try clear hi)) | ((with_reducible refine gate_builtin (b := .append) (xs := #[.tmp 48, .tmp 53]) rfl ?_); at_builtin; refine Kd.R_append (Kd.int .i64) (w0 := w) w.heap.size rfl (.tmp 48) (.tmp 53) 22 3 (.int .i64 0) 8 rfl Tryz.underlying22 info3 rfl (by decide) (by omega) u9 x9_4 t123 [.int .i64 t123] (fun _ => True) (fun _ => False) rfl rfl ?aP (fun _ hk => hk.elim) ?aF ?aO ?aB ?aS ?aL ?_; (case aP => exact rfl); (case aB => exact (bel HB)); (case aF => exact (fun _ _ => trivial)); (case aO => exact (rch HO_9)); (case aS => exact (below_size (bel HB))); (case aL => have := LMc25.out; omega); intro v125 w28 ho hb hg hat; rw [← Ny124.out] at ho; have n0_ := Aside0.mk (Kd.S_after (ok := (fun _ => True)) (by (with_reducible repeat (first | apply Kd.S_alloc | apply Kd.S_drewN | apply Kd.S_drew)); exact Kd.S_mono HO_5.out (fun _ hk => ⟨trivial, hk⟩)) hg hat); have n1_ := Aside0.mk (blk_grown (g := gb101) (o := .cells #[.int .i64 a0_0, .int .i64 a0_1, .slice A0_2 l0_2.length c0_2] 75 (0, 0)) blc hg (Kd.R_ne HO_9.out BK101.out (by decide))); have n2_ := Aside0.mk (hb); have n3_ := Aside0.mk (ho); clear HO_5; clear BK101; clear HB; clear HO_9; have HO_5 := n0_; have BK101 := n1_; have HB := n2_; have HO126 := n3_; clear n0_ n1_ n2_ n3_; clear ho hb hg hat)))
               go_roundg kj15
               case measure => have := HJ2.out; have := HJ8.out; have := HK3.out; have := HK4.out; have := HJ15.out; omega
               case rel => exact ⟨(y124), (wrap64 (x32_4 + 1)), (by first | rfl | (simp; done) | (simp [*]; done)), H', ⟨by have := HJ2.out; have := HJ8.out; have := HK3.out; have := HK4.out; have := HJ15.out; omega⟩, ⟨by (with_reducible repeat (first | apply Kd.S_alloc | apply Kd.S_drewN | apply Kd.S_drew)); exact Kd.S_mono HO_5.out (fun _ hk => hk.2)⟩, ⟨rch HO126⟩, ⟨blc⟩, ⟨bel HB⟩⟩
              ·rw [if_neg c25] at H
               exact absurd H (by simp)
          ·rw [if_neg c15] at H
           have c15b0 : decide (x32_4 < x7_8) = false := decide_eq_false c15
           clear c15
           by_cases c29 : a1 = 114
           ·rw [if_pos c29] at H
            have c29b0 : (a1 == 114) = true := beq_iff_eq.mpr c29
            have c29b1 : (a1 != 114) = false := bne_eq_false_iff_eq.mpr c29
            clear c29
            replace H := Option.bind_eq_some_iff.mp H
            obtain ⟨t108, A300, H⟩ := H
            replace H : (if x5_3.length < 5864062014805 then (impl_tray_lines.l0 k4 a1 (x5_3 ++ [t108]) x7_8 x6_8 (wrap64 (x27_3 + 1)) a0_0 a0_1 l0_2) else (none)) = some r := H
            have A30 := Aside0.mk A300
            clear A300
            by_cases c31 : x5_3.length < 5864062014805
            ·rw [if_pos c31] at H
             have LMc31 := Aside0.mk c31
             clear c31
             obtain ⟨y109, hy109⟩ : ∃ y_ : List (List Int), y_ = (x5_3 ++ [t108]) := ⟨_, rfl⟩
             replace H : (impl_tray_lines.l0 k4 a1 y109 x7_8 x6_8 (wrap64 (x27_3 + 1)) a0_0 a0_1 l0_2) = some r := rH hy109 H
             have Ny109 := Aside0.mk hy109
             clear hy109
             have H' := Aside0.mk H
             clear H
             obtain ⟨Ao32, co32, eo32⟩ := Kd.R_slice HO_9.out
             subst eo32
             go_wp2_with (first | (go_at_call 125; (with_reducible refine (slices_Reverse_int_int.calls k4 (fun k_ => some k_ = (.slice Ao32 x9_4.length co32 : Value).ownBlock) (.slice Ao32 x9_4.length co32) x9_4 t108 w _ ?side1 ?side2 A30.out).mono ?_); (case side1 => repeat (first | (with_reducible first | exact HB.out | apply below_alloc | apply pw_below_drewN | apply below_drew1 | refine below_set ?_ GE101.out) | exact HB.out)); (case side2 => exact Kd.R_tight rfl HO_9.out); rintro e w33 ⟨rfl, hy0, hb, hkp⟩; have n0_ := Aside0.mk (Kd.S_mono (ok' := fun k_ => some k_ ≠ (.slice Ao32 x9_4.length co32 : Value).ownBlock) (Kd.S_keptB (HO_5.out) hkp (fun k_ hk_ hs_ => (hk_) hs_)) (fun k_ hk_ => hk_.1)); have n1_ := Aside0.mk (Kd.R_reok rfl hy0 (fun k_ e_ => HO_9.out.1 k_ e_)); have n2_ := Aside0.mk (blk_kept blc hkp (fun hs_ => (fun e_ => (Kd.R_ne HO_9.out BK101.out (by decide)) e_) hs_)); have n3_ := Aside0.mk (hb); clear HO_5; clear HO_9; clear BK101; clear HB; have HO_5 := n0_; have HO_9 := n1_; have BK101 := n2_; have HB := n3_; clear n0_ n1_ n2_ n3_; (try clear hb); (try clear hkp); (try clear hy0)) | ((with_reducible refine gate_builtin (b := .append) (xs := #[.tmp 64, .tmp 66]) rfl ?_); at_builtin; refine Kd.S_append (Kd.slice 3 (Kd.int .i64)) (w0 := w) w.heap.size rfl (.tmp 64) (.tmp 66) 49 22 (.slice none 0 0) 24 rfl Tryz.underlying49 info22 rfl (by decide) (by omega) u5 x5_3 t108 [.slice Ao32 x9_4.length co32] (fun _ => True) (fun k_ => some k_ = (.slice Ao32 x9_4.length co32 : Value).ownBlock) rfl rfl ?aP (fun k_ hk_ => ((Kd.R_mono (ok' := fun k_ => ((fun _ => True)) k_ ∧ some k_ ≠ (u5 : Value).ownBlock) (Kd.R_apart' (HO_9.out) (Kd.S_typed HO_5.out) (by decide)) (fun k_ hk => ⟨trivial, hk.2⟩))).1 k_ hk_.symm) ?aF ?aO ?aB ?aS ?aL ?_; (case aP => exact Kd.M_row (Kd.R_mono (Kd.R_tight rfl (Kd.R_mono (ok' := fun k_ => ((fun _ => True)) k_ ∧ some k_ ≠ (u5 : Value).ownBlock) (Kd.R_apart' (HO_9.out) (Kd.S_typed HO_5.out) (by decide)) (fun k_ hk => ⟨trivial, hk.2⟩))) (fun _ h_ => h_))); (case aB => exact (bel HB)); (case aF => exact (fun _ _ => trivial)); (case aO => exact (by (with_reducible repeat (first | apply Kd.S_alloc | apply Kd.S_drewN | apply Kd.S_drew)); exact Kd.S_mono HO_5.out (fun k_ hk => ⟨trivial, fun e_ => hk e_⟩))); (case aS => exact (below_size (bel HB))); (case aL => have := LMc31.out; omega); intro v110 w34 ho hb hg hat; rw [← Ny109.out] at ho; have n0_ := Aside0.mk (blk_grown (g := gb101) (o := .cells #[.int .i64 a0_0, .int .i64 a0_1, .slice A0_2 l0_2.length c0_2] 75 (0, 0)) blc hg (Kd.S_ne HO_5.out BK101.out (by decide))); have n1_ := Aside0.mk (hb); have n2_ := Aside0.mk (ho); clear BK101; clear HB; clear HO_5; clear HO_9; have BK101 := n0_; have HB := n1_; have HO111 := n2_; clear n0_ n1_ n2_; clear ho hb hg hat))
             repeat (go_quiet (first | (go_at_call 125; (with_reducible refine (slices_Reverse_int_int.calls k4 (fun k_ => some k_ = (.slice Ao32 x9_4.length co32 : Value).ownBlock) (.slice Ao32 x9_4.length co32) x9_4 t108 w _ ?side1 ?side2 A30.out).mono ?_); (case side1 => repeat (first | (with_reducible first | exact HB.out | apply below_alloc | apply pw_below_drewN | apply below_drew1 | refine below_set ?_ GE101.out) | exact HB.out)); (case side2 => exact Kd.R_tight rfl HO_9.out); rintro e w33 ⟨rfl, hy0, hb, hkp⟩; have n0_ := Aside0.mk (Kd.S_mono (ok' := fun k_ => some k_ ≠ (.slice Ao32 x9_4.length co32 : Value).ownBlock) (Kd.S_keptB (HO_5.out) hkp (fun k_ hk_ hs_ => (hk_) hs_)) (fun k_ hk_ => hk_.1)); have n1_ := Aside0.mk (Kd.R_reok rfl hy0 (fun k_ e_ => HO_9.out.1 k_ e_)); have n2_ := Aside0.mk (blk_kept blc hkp (fun hs_ => (fun e_ => (Kd.R_ne HO_9.out BK101.out (by decide)) e_) hs_)); have n3_ := Aside0.mk (hb); clear HO_5; clear HO_9; clear BK101; clear HB; have HO_5 := n0_; have HO_9 := n1_; have BK101 := n2_; have HB := n3_; clear n0_ n1_ n2_ n3_; (try clear hb); (try clear hkp); (try clear hy0)) | ((with_reducible refine gate_builtin (b := .append) (xs := #[.tmp 64, .tmp 66]) rfl ?_); at_builtin; refine Kd.S_append (Kd.slice 3 (Kd.int .i64)) (w0 := w) w.heap.size rfl (.tmp 64) (.tmp 66) 49 22 (.slice none 0 0) 24 rfl Tryz.underlying49 info22 rfl (by decide) (by omega) u5 x5_3 t108 [.slice Ao32 x9_4.length co32] (fun _ => True) (fun k_ => some k_ = (.slice Ao32 x9_4.length co32 : Value).ownBlock) rfl rfl ?aP (fun k_ hk_ => ((Kd.R_mono (ok' := fun k_ => ((fun _ => True)) k_ ∧ some k_ ≠ (u5 : Value).ownBlock) (Kd.R_apart' (HO_9.out) (Kd.S_typed HO_5.out) (by decide)) (fun k_ hk => ⟨trivial, hk.2⟩))).1 k_ hk_.symm) ?aF ?aO ?aB ?aS ?aL ?_; (case aP => exact Kd.M_row (Kd.R_mono (Kd.R_tight rfl (Kd.R_mono (ok' := fun k_ => ((fun _ => True)) k_ ∧ some k_ ≠ (u5 : Value).ownBlock) (Kd.R_apart' (HO_9.out) (Kd.S_typed HO_5.out) (by decide)) (fun k_ hk => ⟨trivial, hk.2⟩))) (fun _ h_ => h_))); (case aB => exact (bel HB)); (case aF => exact (fun _ _ => trivial)); (case aO => exact (by (with_reducible repeat (first | apply Kd.S_alloc | apply Kd.S_drewN | apply Kd.S_drew)); exact Kd.S_mono HO_5.out (fun k_ hk => ⟨trivial, fun e_ => hk e_⟩))); (case aS => exact (below_size (bel HB))); (case aL => have := LMc31.out; omega); intro v110 w34 ho hb hg hat; rw [← Ny109.out] at ho; have n0_ := Aside0.mk (blk_grown (g := gb101) (o := .cells #[.int .i64 a0_0, .int .i64 a0_1, .slice A0_2 l0_2.length c0_2] 75 (0, 0)) blc hg (Kd.S_ne HO_5.out BK101.out (by decide))); have n1_ := Aside0.mk (hb); have n2_ := Aside0.mk (ho); clear BK101; clear HB; clear HO_5; clear HO_9; have BK101 := n0_; have HB := n1_; have HO111 := n2_; clear n0_ n1_ n2_; clear ho hb hg hat)); try go_wp2_with (first | (go_at_call 125; (with_reducible refine (slices_Reverse_int_int.calls k4 (fun k_ => some k_ = (.slice Ao32 x9_4.length co32 : Value).ownBlock) (.slice Ao32 x9_4.length co32) x9_4 t108 w _ ?side1 ?side2 A30.out).mono ?_); (case side1 => repeat (first | (with_reducible first | exact HB.out | apply below_alloc | apply pw_below_drewN | apply below_drew1 | refine below_set ?_ GE101.out) | exact HB.out)); (case side2 => exact Kd.R_tight rfl HO_9.out); rintro e w33 ⟨rfl, hy0, hb, hkp⟩; have n0_ := Aside0.mk (Kd.S_mono (ok' := fun k_ => some k_ ≠ (.slice Ao32 x9_4.length co32 : Value).ownBlock) (Kd.S_keptB (HO_5.out) hkp (fun k_ hk_ hs_ => (hk_) hs_)) (fun k_ hk_ => hk_.1)); have n1_ := Aside0.mk (Kd.R_reok rfl hy0 (fun k_ e_ => HO_9.out.1 k_ e_)); have n2_ := Aside0.mk (blk_kept blc hkp (fun hs_ => (fun e_ => (Kd.R_ne HO_9.out BK101.out (by decide)) e_) hs_)); have n3_ := Aside0.mk (hb); clear HO_5; clear HO_9; clear BK101; clear HB; have HO_5 := n0_; have HO_9 := n1_; have BK101 := n2_; have HB := n3_; clear n0_ n1_ n2_ n3_; (try clear hb); (try clear hkp); (try clear hy0)) | ((with_reducible refine gate_builtin (b := .append) (xs := #[.tmp 64, .tmp 66]) rfl ?_); at_builtin; refine Kd.S_append (Kd.slice 3 (Kd.int .i64)) (w0 := w) w.heap.size rfl (.tmp 64) (.tmp 66) 49 22 (.slice none 0 0) 24 rfl Tryz.underlying49 info22 rfl (by decide) (by omega) u5 x5_3 t108 [.slice Ao32 x9_4.length co32] (fun _ => True) (fun k_ => some k_ = (.slice Ao32 x9_4.length co32 : Value).ownBlock) rfl rfl ?aP (fun k_ hk_ => ((Kd.R_mono (ok' := fun k_ => ((fun _ => True)) k_ ∧ some k_ ≠ (u5 : Value).ownBlock) (Kd.R_apart' (HO_9.out) (Kd.S_typed HO_5.out) (by decide)) (fun k_ hk => ⟨trivial, hk.2⟩))).1 k_ hk_.symm) ?aF ?aO ?aB ?aS ?aL ?_; (case aP => exact Kd.M_row (Kd.R_mono (Kd.R_tight rfl (Kd.R_mono (ok' := fun k_ => ((fun _ => True)) k_ ∧ some k_ ≠ (u5 : Value).ownBlock) (Kd.R_apart' (HO_9.out) (Kd.S_typed HO_5.out) (by decide)) (fun k_ hk => ⟨trivial, hk.2⟩))) (fun _ h_ => h_))); (case aB => exact (bel HB)); (case aF => exact (fun _ _ => trivial)); (case aO => exact (by (with_reducible repeat (first | apply Kd.S_alloc | apply Kd.S_drewN | apply Kd.S_drew)); exact Kd.S_mono HO_5.out (fun k_ hk => ⟨trivial, fun e_ => hk e_⟩))); (case aS => exact (below_size (bel HB))); (case aL => have := LMc31.out; omega); intro v110 w34 ho hb hg hat; rw [← Ny109.out] at ho; have n0_ := Aside0.mk (blk_grown (g := gb101) (o := .cells #[.int .i64 a0_0, .int .i64 a0_1, .slice A0_2 l0_2.length c0_2] 75 (0, 0)) blc hg (Kd.S_ne HO_5.out BK101.out (by decide))); have n1_ := Aside0.mk (hb); have n2_ := Aside0.mk (ho); clear BK101; clear HB; clear HO_5; clear HO_9; have BK101 := n0_; have HB := n1_; have HO111 := n2_; clear n0_ n1_ n2_; clear ho hb hg hat)))
             go_roundg k4
             case measure => have := HJ2.out; have := HJ8.out; have := HK3.out; have := HK4.out; omega
             case rel => exact ⟨(y109), (wrap64 (x27_3 + 1)), (by first | rfl | (simp; done) | (simp [*]; done)), H', ⟨by have := HJ2.out; have := HJ8.out; have := HK3.out; have := HK4.out; omega⟩, ⟨by (with_reducible repeat (first | apply Kd.S_alloc | apply Kd.S_drewN | apply Kd.S_drew)); (first | exact HO111.out | exact R_any HO111.out)⟩, ⟨blc⟩, ⟨bel HB⟩⟩
            ·rw [if_neg c31] at H
             exact absurd H (by simp)
           ·rw [if_neg c29] at H
            have c29b0 : (a1 == 114) = false := beq_eq_false_iff_ne.mpr c29
            have c29b1 : (a1 != 114) = true := bne_iff_ne.mpr c29
            by_cases c35 : a1 = 100
            ·rw [if_pos c35] at H
             have c35b0 : (a1 == 100) = true := beq_iff_eq.mpr c35
             have c35b1 : (a1 != 100) = false := bne_eq_false_iff_eq.mpr c35
             clear c35
             replace H := Option.bind_eq_some_iff.mp H
             obtain ⟨t112, A360, H⟩ := H
             replace H : (if x5_3.length < 5864062014805 then (impl_tray_lines.l0 k4 a1 (x5_3 ++ [t112]) x7_8 x6_8 (wrap64 (x27_3 + 1)) a0_0 a0_1 l0_2) else (none)) = some r := H
             have A36 := Aside0.mk A360
             clear A360
             by_cases c37 : x5_3.length < 5864062014805
             ·rw [if_pos c37] at H
              have LMc37 := Aside0.mk c37
              clear c37
              obtain ⟨y113, hy113⟩ : ∃ y_ : List (List Int), y_ = (x5_3 ++ [t112]) := ⟨_, rfl⟩
              replace H : (impl_tray_lines.l0 k4 a1 y113 x7_8 x6_8 (wrap64 (x27_3 + 1)) a0_0 a0_1 l0_2) = some r := rH hy113 H
              have Ny113 := Aside0.mk hy113
              clear hy113
              have H' := Aside0.mk H
              clear H
              obtain ⟨Ao38, co38, eo38⟩ := Kd.R_slice HO_9.out
              subst eo38
              go_wp2_with (first | (go_at_call 125; (with_reducible refine (slices_Reverse_int_int.calls k4 (fun k_ => some k_ = (.slice Ao38 x9_4.length co38 : Value).ownBlock) (.slice Ao38 x9_4.length co38) x9_4 t112 w _ ?side1 ?side2 A36.out).mono ?_); (case side1 => repeat (first | (with_reducible first | exact HB.out | apply below_alloc | apply pw_below_drewN | apply below_drew1 | refine below_set ?_ GE101.out) | exact HB.out)); (case side2 => exact Kd.R_tight rfl HO_9.out); rintro e w39 ⟨rfl, hy0, hb, hkp⟩; have n0_ := Aside0.mk (Kd.S_mono (ok' := fun k_ => some k_ ≠ (.slice Ao38 x9_4.length co38 : Value).ownBlock) (Kd.S_keptB (HO_5.out) hkp (fun k_ hk_ hs_ => (hk_) hs_)) (fun k_ hk_ => hk_.1)); have n1_ := Aside0.mk (Kd.R_reok rfl hy0 (fun k_ e_ => HO_9.out.1 k_ e_)); have n2_ := Aside0.mk (blk_kept blc hkp (fun hs_ => (fun e_ => (Kd.R_ne HO_9.out BK101.out (by decide)) e_) hs_)); have n3_ := Aside0.mk (hb); clear HO_5; clear HO_9; clear BK101; clear HB; have HO_5 := n0_; have HO_9 := n1_; have BK101 := n2_; have HB := n3_; clear n0_ n1_ n2_ n3_; (try clear hb); (try clear hkp); (try clear hy0)) | ((with_reducible refine gate_builtin (b := .append) (xs := #[.tmp 64, .tmp 66]) rfl ?_); at_builtin; refine Kd.S_append (Kd.slice 3 (Kd.int .i64)) (w0 := w) w.heap.size rfl (.tmp 64) (.tmp 66) 49 22 (.slice none 0 0) 24 rfl Tryz.underlying49 info22 rfl (by decide) (by omega) u5 x5_3 t112 [.slice Ao38 x9_4.length co38] (fun _ => True) (fun k_ => some k_ = (.slice Ao38 x9_4.length co38 : Value).ownBlock) rfl rfl ?aP (fun k_ hk_ => ((Kd.R_mono (ok' := fun k_ => ((fun _ => True)) k_ ∧ some k_ ≠ (u5 : Value).ownBlock) (Kd.R_apart' (HO_9.out) (Kd.S_typed HO_5.out) (by decide)) (fun k_ hk => ⟨trivial, hk.2⟩))).1 k_ hk_.symm) ?aF ?aO ?aB ?aS ?aL ?_; (case aP => exact Kd.M_row (Kd.R_mono (Kd.R_tight rfl (Kd.R_mono (ok' := fun k_ => ((fun _ => True)) k_ ∧ some k_ ≠ (u5 : Value).ownBlock) (Kd.R_apart' (HO_9.out) (Kd.S_typed HO_5.out) (by decide)) (fun k_ hk => ⟨trivial, hk.2⟩))) (fun _ h_ => h_))); (case aB => exact (bel HB)); (case aF => exact (fun _ _ => trivial)); (case aO => exact (by (with_reducible repeat (first | apply Kd.S_alloc | apply Kd.S_drewN | apply Kd.S_drew)); exact Kd.S_mono HO_5.out (fun k_ hk => ⟨trivial, fun e_ => hk e_⟩))); (case aS => exact (below_size (bel HB))); (case aL => have := LMc37.out; omega); intro v114 w40 ho hb hg hat; rw [← Ny113.out] at ho; have n0_ := Aside0.mk (blk_grown (g := gb101) (o := .cells #[.int .i64 a0_0, .int .i64 a0_1, .slice A0_2 l0_2.length c0_2] 75 (0, 0)) blc hg (Kd.S_ne HO_5.out BK101.out (by decide))); have n1_ := Aside0.mk (hb); have n2_ := Aside0.mk (ho); clear BK101; clear HB; clear HO_5; clear HO_9; have BK101 := n0_; have HB := n1_; have HO115 := n2_; clear n0_ n1_ n2_; clear ho hb hg hat))
              repeat (go_quiet (first | (go_at_call 125; (with_reducible refine (slices_Reverse_int_int.calls k4 (fun k_ => some k_ = (.slice Ao38 x9_4.length co38 : Value).ownBlock) (.slice Ao38 x9_4.length co38) x9_4 t112 w _ ?side1 ?side2 A36.out).mono ?_); (case side1 => repeat (first | (with_reducible first | exact HB.out | apply below_alloc | apply pw_below_drewN | apply below_drew1 | refine below_set ?_ GE101.out) | exact HB.out)); (case side2 => exact Kd.R_tight rfl HO_9.out); rintro e w39 ⟨rfl, hy0, hb, hkp⟩; have n0_ := Aside0.mk (Kd.S_mono (ok' := fun k_ => some k_ ≠ (.slice Ao38 x9_4.length co38 : Value).ownBlock) (Kd.S_keptB (HO_5.out) hkp (fun k_ hk_ hs_ => (hk_) hs_)) (fun k_ hk_ => hk_.1)); have n1_ := Aside0.mk (Kd.R_reok rfl hy0 (fun k_ e_ => HO_9.out.1 k_ e_)); have n2_ := Aside0.mk (blk_kept blc hkp (fun hs_ => (fun e_ => (Kd.R_ne HO_9.out BK101.out (by decide)) e_) hs_)); have n3_ := Aside0.mk (hb); clear HO_5; clear HO_9; clear BK101; clear HB; have HO_5 := n0_; have HO_9 := n1_; have BK101 := n2_; have HB := n3_; clear n0_ n1_ n2_ n3_; (try clear hb); (try clear hkp); (try clear hy0)) | ((with_reducible refine gate_builtin (b := .append) (xs := #[.tmp 64, .tmp 66]) rfl ?_); at_builtin; refine Kd.S_append (Kd.slice 3 (Kd.int .i64)) (w0 := w) w.heap.size rfl (.tmp 64) (.tmp 66) 49 22 (.slice none 0 0) 24 rfl Tryz.underlying49 info22 rfl (by decide) (by omega) u5 x5_3 t112 [.slice Ao38 x9_4.length co38] (fun _ => True) (fun k_ => some k_ = (.slice Ao38 x9_4.length co38 : Value).ownBlock) rfl rfl ?aP (fun k_ hk_ => ((Kd.R_mono (ok' := fun k_ => ((fun _ => True)) k_ ∧ some k_ ≠ (u5 : Value).ownBlock) (Kd.R_apart' (HO_9.out) (Kd.S_typed HO_5.out) (by decide)) (fun k_ hk => ⟨trivial, hk.2⟩))).1 k_ hk_.symm) ?aF ?aO ?aB ?aS ?aL ?_; (case aP => exact Kd.M_row (Kd.R_mono (Kd.R_tight rfl (Kd.R_mono (ok' := fun k_ => ((fun _ => True)) k_ ∧ some k_ ≠ (u5 : Value).ownBlock) (Kd.R_apart' (HO_9.out) (Kd.S_typed HO_5.out) (by decide)) (fun k_ hk => ⟨trivial, hk.2⟩))) (fun _ h_ => h_))); (case aB => exact (bel HB)); (case aF => exact (fun _ _ => trivial)); (case aO => exact (by (with_reducible repeat (first | apply Kd.S_alloc | apply Kd.S_drewN | apply Kd.S_drew)); exact Kd.S_mono HO_5.out (fun k_ hk => ⟨trivial, fun e_ => hk e_⟩))); (case aS => exact (below_size (bel HB))); (case aL => have := LMc37.out; omega); intro v114 w40 ho hb hg hat; rw [← Ny113.out] at ho; have n0_ := Aside0.mk (blk_grown (g := gb101) (o := .cells #[.int .i64 a0_0, .int .i64 a0_1, .slice A0_2 l0_2.length c0_2] 75 (0, 0)) blc hg (Kd.S_ne HO_5.out BK101.out (by decide))); have n1_ := Aside0.mk (hb); have n2_ := Aside0.mk (ho); clear BK101; clear HB; clear HO_5; clear HO_9; have BK101 := n0_; have HB := n1_; have HO115 := n2_; clear n0_ n1_ n2_; clear ho hb hg hat)); try go_wp2_with (first | (go_at_call 125; (with_reducible refine (slices_Reverse_int_int.calls k4 (fun k_ => some k_ = (.slice Ao38 x9_4.length co38 : Value).ownBlock) (.slice Ao38 x9_4.length co38) x9_4 t112 w _ ?side1 ?side2 A36.out).mono ?_); (case side1 => repeat (first | (with_reducible first | exact HB.out | apply below_alloc | apply pw_below_drewN | apply below_drew1 | refine below_set ?_ GE101.out) | exact HB.out)); (case side2 => exact Kd.R_tight rfl HO_9.out); rintro e w39 ⟨rfl, hy0, hb, hkp⟩; have n0_ := Aside0.mk (Kd.S_mono (ok' := fun k_ => some k_ ≠ (.slice Ao38 x9_4.length co38 : Value).ownBlock) (Kd.S_keptB (HO_5.out) hkp (fun k_ hk_ hs_ => (hk_) hs_)) (fun k_ hk_ => hk_.1)); have n1_ := Aside0.mk (Kd.R_reok rfl hy0 (fun k_ e_ => HO_9.out.1 k_ e_)); have n2_ := Aside0.mk (blk_kept blc hkp (fun hs_ => (fun e_ => (Kd.R_ne HO_9.out BK101.out (by decide)) e_) hs_)); have n3_ := Aside0.mk (hb); clear HO_5; clear HO_9; clear BK101; clear HB; have HO_5 := n0_; have HO_9 := n1_; have BK101 := n2_; have HB := n3_; clear n0_ n1_ n2_ n3_; (try clear hb); (try clear hkp); (try clear hy0)) | ((with_reducible refine gate_builtin (b := .append) (xs := #[.tmp 64, .tmp 66]) rfl ?_); at_builtin; refine Kd.S_append (Kd.slice 3 (Kd.int .i64)) (w0 := w) w.heap.size rfl (.tmp 64) (.tmp 66) 49 22 (.slice none 0 0) 24 rfl Tryz.underlying49 info22 rfl (by decide) (by omega) u5 x5_3 t112 [.slice Ao38 x9_4.length co38] (fun _ => True) (fun k_ => some k_ = (.slice Ao38 x9_4.length co38 : Value).ownBlock) rfl rfl ?aP (fun k_ hk_ => ((Kd.R_mono (ok' := fun k_ => ((fun _ => True)) k_ ∧ some k_ ≠ (u5 : Value).ownBlock) (Kd.R_apart' (HO_9.out) (Kd.S_typed HO_5.out) (by decide)) (fun k_ hk => ⟨trivial, hk.2⟩))).1 k_ hk_.symm) ?aF ?aO ?aB ?aS ?aL ?_; (case aP => exact Kd.M_row (Kd.R_mono (Kd.R_tight rfl (Kd.R_mono (ok' := fun k_ => ((fun _ => True)) k_ ∧ some k_ ≠ (u5 : Value).ownBlock) (Kd.R_apart' (HO_9.out) (Kd.S_typed HO_5.out) (by decide)) (fun k_ hk => ⟨trivial, hk.2⟩))) (fun _ h_ => h_))); (case aB => exact (bel HB)); (case aF => exact (fun _ _ => trivial)); (case aO => exact (by (with_reducible repeat (first | apply Kd.S_alloc | apply Kd.S_drewN | apply Kd.S_drew)); exact Kd.S_mono HO_5.out (fun k_ hk => ⟨trivial, fun e_ => hk e_⟩))); (case aS => exact (below_size (bel HB))); (case aL => have := LMc37.out; omega); intro v114 w40 ho hb hg hat; rw [← Ny113.out] at ho; have n0_ := Aside0.mk (blk_grown (g := gb101) (o := .cells #[.int .i64 a0_0, .int .i64 a0_1, .slice A0_2 l0_2.length c0_2] 75 (0, 0)) blc hg (Kd.S_ne HO_5.out BK101.out (by decide))); have n1_ := Aside0.mk (hb); have n2_ := Aside0.mk (ho); clear BK101; clear HB; clear HO_5; clear HO_9; have BK101 := n0_; have HB := n1_; have HO115 := n2_; clear n0_ n1_ n2_; clear ho hb hg hat)))
              go_roundg k4
              case measure => have := HJ2.out; have := HJ8.out; have := HK3.out; have := HK4.out; omega
              case rel => exact ⟨(y113), (wrap64 (x27_3 + 1)), (by first | rfl | (simp; done) | (simp [*]; done)), H', ⟨by have := HJ2.out; have := HJ8.out; have := HK3.out; have := HK4.out; omega⟩, ⟨by (with_reducible repeat (first | apply Kd.S_alloc | apply Kd.S_drewN | apply Kd.S_drew)); (first | exact HO115.out | exact R_any HO115.out)⟩, ⟨blc⟩, ⟨bel HB⟩⟩
             ·rw [if_neg c37] at H
              exact absurd H (by simp)
            ·rw [if_neg c35] at H
             have c35b0 : (a1 == 100) = false := beq_eq_false_iff_ne.mpr c35
             have c35b1 : (a1 != 100) = true := bne_iff_ne.mpr c35
             by_cases c41 : x5_3.length < 5864062014805
             ·rw [if_pos c41] at H
              have LMc41 := Aside0.mk c41
              clear c41
              obtain ⟨y116, hy116⟩ : ∃ y_ : List (List Int), y_ = (x5_3 ++ [x9_4]) := ⟨_, rfl⟩
              replace H : (impl_tray_lines.l0 k4 a1 y116 x7_8 x6_8 (wrap64 (x27_3 + 1)) a0_0 a0_1 l0_2) = some r := rH hy116 H
              have Ny116 := Aside0.mk hy116
              clear hy116
              have H' := Aside0.mk H
              clear H
              obtain ⟨Ao43, co43, eo43⟩ := Kd.R_slice HO_9.out
              subst eo43
              go_wp2_with (first | ((with_reducible refine gate_builtin (b := .append) (xs := #[.tmp 64, .tmp 66]) rfl ?_); at_builtin; refine Kd.S_append (Kd.slice 3 (Kd.int .i64)) (w0 := w) w.heap.size rfl (.tmp 64) (.tmp 66) 49 22 (.slice none 0 0) 24 rfl Tryz.underlying49 info22 rfl (by decide) (by omega) u5 x5_3 x9_4 [.slice Ao43 x9_4.length co43] (fun _ => True) (fun k_ => some k_ = (.slice Ao43 x9_4.length co43 : Value).ownBlock) rfl rfl ?aP (fun k_ hk_ => ((Kd.R_mono (ok' := fun k_ => ((fun _ => True)) k_ ∧ some k_ ≠ (u5 : Value).ownBlock) (Kd.R_apart' (HO_9.out) (Kd.S_typed HO_5.out) (by decide)) (fun k_ hk => ⟨trivial, hk.2⟩))).1 k_ hk_.symm) ?aF ?aO ?aB ?aS ?aL ?_; (case aP => exact Kd.M_row (Kd.R_mono (Kd.R_tight rfl (Kd.R_mono (ok' := fun k_ => ((fun _ => True)) k_ ∧ some k_ ≠ (u5 : Value).ownBlock) (Kd.R_apart' (HO_9.out) (Kd.S_typed HO_5.out) (by decide)) (fun k_ hk => ⟨trivial, hk.2⟩))) (fun _ h_ => h_))); (case aB => exact (bel HB)); (case aF => exact (fun _ _ => trivial)); (case aO => exact (by (with_reducible repeat (first | apply Kd.S_alloc | apply Kd.S_drewN | apply Kd.S_drew)); exact Kd.S_mono HO_5.out (fun k_ hk => ⟨trivial, fun e_ => hk e_⟩))); (case aS => exact (below_size (bel HB))); (case aL => have := LMc41.out; omega); intro v117 w42 ho hb hg hat; rw [← Ny116.out] at ho; have n0_ := Aside0.mk (blk_grown (g := gb101) (o := .cells #[.int .i64 a0_0, .int .i64 a0_1, .slice A0_2 l0_2.length c0_2] 75 (0, 0)) blc hg (Kd.S_ne HO_5.out BK101.out (by decide))); have n1_ := Aside0.mk (hb); have n2_ := Aside0.mk (ho); clear BK101; clear HB; clear HO_5; clear HO_9; have BK101 := n0_; have HB := n1_; have HO118 := n2_; clear n0_ n1_ n2_; clear ho hb hg hat))
              repeat (go_quiet (first | ((with_reducible refine gate_builtin (b := .append) (xs := #[.tmp 64, .tmp 66]) rfl ?_); at_builtin; refine Kd.S_append (Kd.slice 3 (Kd.int .i64)) (w0 := w) w.heap.size rfl (.tmp 64) (.tmp 66) 49 22 (.slice none 0 0) 24 rfl Tryz.underlying49 info22 rfl (by decide) (by omega) u5 x5_3 x9_4 [.slice Ao43 x9_4.length co43] (fun _ => True) (fun k_ => some k_ = (.slice Ao43 x9_4.length co43 : Value).ownBlock) rfl rfl ?aP (fun k_ hk_ => ((Kd.R_mono (ok' := fun k_ => ((fun _ => True)) k_ ∧ some k_ ≠ (u5 : Value).ownBlock) (Kd.R_apart' (HO_9.out) (Kd.S_typed HO_5.out) (by decide)) (fun k_ hk => ⟨trivial, hk.2⟩))).1 k_ hk_.symm) ?aF ?aO ?aB ?aS ?aL ?_; (case aP => exact Kd.M_row (Kd.R_mono (Kd.R_tight rfl (Kd.R_mono (ok' := fun k_ => ((fun _ => True)) k_ ∧ some k_ ≠ (u5 : Value).ownBlock) (Kd.R_apart' (HO_9.out) (Kd.S_typed HO_5.out) (by decide)) (fun k_ hk => ⟨trivial, hk.2⟩))) (fun _ h_ => h_))); (case aB => exact (bel HB)); (case aF => exact (fun _ _ => trivial)); (case aO => exact (by (with_reducible repeat (first | apply Kd.S_alloc | apply Kd.S_drewN | apply Kd.S_drew)); exact Kd.S_mono HO_5.out (fun k_ hk => ⟨trivial, fun e_ => hk e_⟩))); (case aS => exact (below_size (bel HB))); (case aL => have := LMc41.out; omega); intro v117 w42 ho hb hg hat; rw [← Ny116.out] at ho; have n0_ := Aside0.mk (blk_grown (g := gb101) (o := .cells #[.int .i64 a0_0, .int .i64 a0_1, .slice A0_2 l0_2.length c0_2] 75 (0, 0)) blc hg (Kd.S_ne HO_5.out BK101.out (by decide))); have n1_ := Aside0.mk (hb); have n2_ := Aside0.mk (ho); clear BK101; clear HB; clear HO_5; clear HO_9; have BK101 := n0_; have HB := n1_; have HO118 := n2_; clear n0_ n1_ n2_; clear ho hb hg hat)); try go_wp2_with (first | ((with_reducible refine gate_builtin (b := .append) (xs := #[.tmp 64, .tmp 66]) rfl ?_); at_builtin; refine Kd.S_append (Kd.slice 3 (Kd.int .i64)) (w0 := w) w.heap.size rfl (.tmp 64) (.tmp 66) 49 22 (.slice none 0 0) 24 rfl Tryz.underlying49 info22 rfl (by decide) (by omega) u5 x5_3 x9_4 [.slice Ao43 x9_4.length co43] (fun _ => True) (fun k_ => some k_ = (.slice Ao43 x9_4.length co43 : Value).ownBlock) rfl rfl ?aP (fun k_ hk_ => ((Kd.R_mono (ok' := fun k_ => ((fun _ => True)) k_ ∧ some k_ ≠ (u5 : Value).ownBlock) (Kd.R_apart' (HO_9.out) (Kd.S_typed HO_5.out) (by decide)) (fun k_ hk => ⟨trivial, hk.2⟩))).1 k_ hk_.symm) ?aF ?aO ?aB ?aS ?aL ?_; (case aP => exact Kd.M_row (Kd.R_mono (Kd.R_tight rfl (Kd.R_mono (ok' := fun k_ => ((fun _ => True)) k_ ∧ some k_ ≠ (u5 : Value).ownBlock) (Kd.R_apart' (HO_9.out) (Kd.S_typed HO_5.out) (by decide)) (fun k_ hk => ⟨trivial, hk.2⟩))) (fun _ h_ => h_))); (case aB => exact (bel HB)); (case aF => exact (fun _ _ => trivial)); (case aO => exact (by (with_reducible repeat (first | apply Kd.S_alloc | apply Kd.S_drewN | apply Kd.S_drew)); exact Kd.S_mono HO_5.out (fun k_ hk => ⟨trivial, fun e_ => hk e_⟩))); (case aS => exact (below_size (bel HB))); (case aL => have := LMc41.out; omega); intro v117 w42 ho hb hg hat; rw [← Ny116.out] at ho; have n0_ := Aside0.mk (blk_grown (g := gb101) (o := .cells #[.int .i64 a0_0, .int .i64 a0_1, .slice A0_2 l0_2.length c0_2] 75 (0, 0)) blc hg (Kd.S_ne HO_5.out BK101.out (by decide))); have n1_ := Aside0.mk (hb); have n2_ := Aside0.mk (ho); clear BK101; clear HB; clear HO_5; clear HO_9; have BK101 := n0_; have HB := n1_; have HO118 := n2_; clear n0_ n1_ n2_; clear ho hb hg hat)))
              go_roundg k4
              case measure => have := HJ2.out; have := HJ8.out; have := HK3.out; have := HK4.out; omega
              case rel => exact ⟨(y116), (wrap64 (x27_3 + 1)), (by first | rfl | (simp; done) | (simp [*]; done)), H', ⟨by have := HJ2.out; have := HJ8.out; have := HK3.out; have := HK4.out; omega⟩, ⟨by (with_reducible repeat (first | apply Kd.S_alloc | apply Kd.S_drewN | apply Kd.S_drew)); (first | exact HO118.out | exact R_any HO118.out)⟩, ⟨blc⟩, ⟨bel HB⟩⟩
             ·rw [if_neg c41] at H
              exact absurd H (by simp)
       ·rw [if_neg c12] at H
        have c12b0 : decide (x27_3 < x6_8) = false := decide_eq_false c12
        clear c12
        obtain rfl := Option.some.inj H
        go_wp2
        repeat (go_quiet (fail); try go_wp2)
        go_ret
        exact ⟨_, by first | rfl | (simp [errW_none, errW_some] <;> rfl) | (simp [*, errW_none, errW_some] <;> rfl), by (with_reducible repeat (first | apply Kd.S_alloc | apply Kd.S_drewN | apply Kd.S_drew)); (first | exact HO_5.out | exact R_any HO_5.out), bel HB⟩
end Go.Proofs.YtchkmhbngbgjnaaGreatDoor.Q
end
