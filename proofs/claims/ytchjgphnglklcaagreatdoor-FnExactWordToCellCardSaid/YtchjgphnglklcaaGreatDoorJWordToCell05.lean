/- Texts of this claim, joined. -/
import Derived.Test.YtchjgphnglklcaaGreatDoorJWordToCell04
import Derived.Test.YtchjgphnglklcaaGreatDoorJWordToCell01
import Derived.Test.YtchjgphnglklcaaGreatDoorJWordToCell02
import Derived.Deep.LoopGhost
import Derived.Deep.Draws
import Derived.RangeFuncBox
import Derived.Test.YtchjgphnglklcaaGreatDoorJWordToCell03
set_option linter.unusedVariables false
set_option linter.unusedSimpArgs false
set_option linter.unusedSectionVars false
section
namespace Go.Proofs.YtchjgphnglklcaaGreatDoor.Q
set_option linter.unusedSectionVars false
set_option linter.unusedVariables false
open Go.RowKit Go.Proofs.YtchjgphnglklcaaGreatDoorW.PrintWords Go.Proofs.YtchjgphnglklcaaGreatDoorW.PrintLast Go.Proofs.YtchjgphnglklcaaGreatDoorW.PrintMore
abbrev RS := BSt (List Int)
def tiT (w h : Nat) (d : Nat) (cs : List Int) : List Int := tiltC w h cs d
def goodC (w h : Nat) (cs : List Int) : Prop := cellsOK cs ∧ cs.length = w * h
theorem b_far {α : Type} [DecidableEq α] {T : Nat → α → α} {t : α} {L : List (BSt α)} (h : BInv T t L) : ∀ (k : Nat) (s : BSt α), L[k]? = some s → s.far ≤ k ∧ s.word.length = s.far ∧ ∀ d ∈ s.word, d < 4 := by
 intro k
 induction k using Nat.strongRecOn with
 | _ k ih =>
  intro s hs
  rcases Nat.eq_zero_or_pos k with e | hk
  ·subst e
   obtain ⟨l, e⟩ := h.first
   rw [e] at hs
   cases hs
   exact ⟨Nat.le_refl _, rfl, fun d hd => by simp at hd⟩
  ·obtain ⟨j, b, h1, h2, h3, h4, h5, h6, h7⟩ := h.back k s hs hk
   obtain ⟨g1, g2, g3⟩ := ih j h2 b h3
   refine ⟨by omega, by rw [h6, h5]; simp [g2], fun d hd => ?_⟩
   rw [h6] at hd
   rcases List.mem_append.1 hd with hd | hd
   ·exact g3 d hd
   ·rw [List.mem_singleton.1 hd]
    exact h7
def farL (L : List RS) (j : Nat) : Nat := ((L[j]?).map BSt.far).getD 0
theorem farL_at {L : List RS} {j : Nat} {s : RS} (h : L[j]? = some s) : farL L j = s.far := by unfold farL; rw [h]; rfl
theorem farL_pre (L l : List RS) {j : Nat} (h : j < L.length) : farL (L ++ l) j = farL L j := by unfold farL; rw [List.getElem?_append_left h]
def bump (L : List RS) (i : Nat) (V : Nat → Int) (j : Nat) : Nat → Int := if farL L j = farL L i + 1 then fun q => if q = j then wrap64 (V j + V i) else V q else V
def vRow (L : List RS) (i : Nat) (V : Nat → Int) (ms : List Nat) : Nat → Int := ms.foldl (bump L i) V
def vRows (L : List RS) : Nat → (Nat → Int) → List (List Nat) → Nat → Int
 | _, V, [] => V
 | i, V, nx :: N => vRows L (i + 1) (vRow L i V nx) N
theorem vRows_snoc (L : List RS) : ∀ (N : List (List Nat)) (i : Nat) (V : Nat → Int) (nx : List Nat), vRows L i V (N ++ [nx]) = vRow L (i + N.length) (vRows L i V N) nx
 | [], i, V, nx => rfl
 | n :: N, i, V, nx => by
  rw [List.cons_append, vRows, vRows, vRows_snoc L N (i + 1), List.length_cons, show i + 1 + N.length = i + (N.length + 1) by omega]
theorem bump_pre (L l : List RS) {i j : Nat} (hi : i < L.length) (hj : j < L.length) (V : Nat → Int) : bump (L ++ l) i V j = bump L i V j := by
 unfold bump
 rw [farL_pre L l hi, farL_pre L l hj]
theorem vRow_pre (L l : List RS) {i : Nat} (hi : i < L.length) : ∀ (ms : List Nat) (V : Nat → Int), (∀ j ∈ ms, j < L.length) → vRow (L ++ l) i V ms = vRow L i V ms
 | [], V, _ => rfl
 | j :: ms, V, h => by
  show vRow (L ++ l) i (bump (L ++ l) i V j) ms = vRow L i (bump L i V j) ms
  rw [bump_pre L l hi (h j (by simp)), vRow_pre L l hi ms _ fun q hq => h q (by simp [hq])]
theorem vRows_pre (L l : List RS) : ∀ (N : List (List Nat)) (i : Nat) (V : Nat → Int), i + N.length ≤ L.length → (∀ nx ∈ N, ∀ j ∈ nx, j < L.length) → vRows (L ++ l) i V N = vRows L i V N
 | [], i, V, _, _ => rfl
 | nx :: N, i, V, hi, h => by
  rw [List.length_cons] at hi
  rw [vRows, vRows, vRow_pre L l (by omega) nx V (h nx (by simp)), vRows_pre L l N (i + 1) _ (by omega) fun m hm => h m (by simp [hm])]
def V0 : Nat → Int := fun j => if j = 0 then 1 else 0
section
variable {w h : Nat} (hw : w ≤ 7) (hh : h ≤ 7) (hs : w * h ≤ 36) (hw1 : 0 < w) (hh1 : 0 < h)
include hw hh hs hw1 hh1
theorem good_tilt {cs : List Int} {d : Nat} (hd : d < 4) (hc : goodC w h cs) : goodC w h (tiT w h d cs) := ⟨tilt_cells w h d hc.1, (tiltC_len hw hh hs hd).trans hc.2⟩
theorem tx_inj {a b : List Int} (ha : goodC w h a) (hb : goodC w h b) : (tx a w h).data.toList = (tx b w h).data.toList ↔ a = b := by
 constructor
 ·intro e
  have h1 := tx_flat hw1 hw hh1 hh hs ha.2 ha.1;have h2 := tx_flat hw1 hw hh1 hh hs hb.2 hb.1
  rw [← tx_rows hw1 hw hh1 hh hs ha.2 ha.1] at h1
  rw [← tx_rows hw1 hw hh1 hh hs hb.2 hb.1] at h2
  rw [← h1, ← h2, e]
 ·intro e
  rw [e]
theorem idxS_bIdx {u : List Int} (hu : goodC w h u) : ∀ (L : List RS) (k : Nat), (∀ s ∈ L, goodC w h s.x) → idxS (L.map fun s => (tx s.x w h).data.toList) (tx u w h).data.toList k = bIdx L u k
 | [], k, _ => rfl
 | s :: L, k, hL => by
  rw [List.map_cons, idxS, bIdx, idxS_bIdx hu L (k + 1) fun s' hs' => hL s' (by simp [hs'])]
  exact ite_iff (tx_inj hw hh hs hw1 hh1 (hL s (by simp)) hu)
theorem zPlace_bIdx {u : List Int} (hu : goodC w h u) : ∀ (L' : List Zs) (L : List RS) (k : Nat), (∀ s ∈ L, goodC w h s.x) → L'.map Zs.text = L.map (fun s => tx s.x w h) → zPlace L' (tx u w h) k = match bIdx L u k with | some j => (j : Int) | none => -1
 | [], [], k, _, _ => rfl
 | z :: L', [], k, _, e => by simp at e
 | [], s :: L, k, _, e => by simp at e
 | z :: L', s :: L, k, hL, e => by
  rw [List.map_cons, List.map_cons] at e
  injection e with e1 e2
  have ih := zPlace_bIdx hu L' L (k + 1) (fun s' hs' => hL s' (by simp [hs'])) e2
  rw [zPlace, bIdx, e1, ih, toList_data, toList_data]
  by_cases e3 : s.x = u
  ·rw [if_pos e3, if_pos ((tx_inj hw hh hs hw1 hh1 (hL s (by simp)) hu).2 e3)]
  ·rw [if_neg e3, if_neg fun h4 => e3 ((tx_inj hw hh hs hw1 hh1 (hL s (by simp)) hu).1 h4)]
end
def zOf (w h : Nat) (V : Nat → Int) (N : Nat → List Nat) (i : Nat) (s : RS) : Zs := ⟨w, h, s.x, tx s.x w h, s.far, V i, s.before, s.dir, (N i).map fun j => ((j : Nat) : Int)⟩
def zL (w h : Nat) (L : List RS) (V : Nat → Int) (N : Nat → List Nat) : List Zs := L.mapIdx (zOf w h V N)
theorem zL_at (w h : Nat) (L : List RS) (V : Nat → Int) (N : Nat → List Nat) (i : Nat) : (zL w h L V N)[i]? = (L[i]?).map (zOf w h V N i) := List.getElem?_mapIdx ..
theorem zL_len (w h : Nat) (L : List RS) (V : Nat → Int) (N : Nat → List Nat) : (zL w h L V N).length = L.length := List.length_mapIdx ..
theorem zL_get {w h : Nat} {L : List RS} {V : Nat → Int} {N : Nat → List Nat} {i : Nat} {s : RS} (hs : L[i]? = some s) : zAt (zL w h L V N) i = zOf w h V N i s := by
 unfold zAt
 rw [List.getD_eq_getElem?_getD, zL_at, hs]
 rfl
theorem zL_text (w h : Nat) (L : List RS) (V : Nat → Int) (N : Nat → List Nat) : (zL w h L V N).map Zs.text = L.map fun s => tx s.x w h := by
 refine List.ext_getElem? fun i => ?_
 rw [List.getElem?_map, List.getElem?_map, zL_at]
 cases L[i]? <;> rfl
theorem zL_add (w h : Nat) (L : List RS) (V : Nat → Int) (N : Nat → List Nat) (s : RS) : zL w h L V N ++ [zOf w h V N L.length s] = zL w h (L ++ [s]) V N := by
 unfold zL
 rw [List.mapIdx_append]
 show _ = _ ++ [zOf w h V N (0 + L.length) s]
 rw [Nat.zero_add]
def updN (N : Nat → List Nat) (i : Nat) (l : List Nat) : Nat → List Nat := fun q => if q = i then l else N q
theorem updN_self (N : Nat → List Nat) (i : Nat) : updN N i (N i) = N := by
 funext q
 unfold updN
 split
 ·rename_i e
  rw [e]
 ·rfl
theorem updN_upd (N : Nat → List Nat) (i : Nat) (a b : List Nat) : updN (updN N i a) i b = updN N i b := by
 funext q
 unfold updN
 split <;> rfl
theorem zL_touch {w h : Nat} {L : List RS} {V : Nat → Int} {N : Nat → List Nat} {i j : Nat} {s r : RS} (hs : L[i]? = some s) (hr : L[j]? = some r) (h1 : s.far ≤ 1000) (h2 : r.far ≤ 1000) : zTouch (zL w h L V N) i j = zL w h L (bump L i V j) (updN N i (N i ++ [j])) := by
 have hW : zWords (zL w h L V N) i j = zL w h L (bump L i V j) N := by
  unfold zWords bump
  rw [zL_get hs, zL_get hr, farL_at hs, farL_at hr]
  show (if (r.far : Int) = wrap64 ((s.far : Int) + 1) then _ else _) = _
  rw [w64 (n := (s.far : Int) + 1) (by omega) (by omega)]
  by_cases e : r.far = s.far + 1
  ·rw [if_pos (by omega), if_pos e]
   refine List.ext_getElem? fun q => ?_
   rw [List.getElem?_set, zL_at, zL_at, zL_len]
   have hj := (List.getElem?_eq_some_iff.1 hr).1
   by_cases eq : j = q
   ·subst eq
    rw [if_pos rfl, if_pos hj, hr]
    show some _ = some _
    unfold zOf
    simp
   ·rw [if_neg eq]
    cases hq : L[q]? with
    | none => rfl
    | some x =>
     refine congrArg some ?_
     unfold zOf
     have e3 : (if q = j then wrap64 (V j + V i) else V q) = V q := if_neg fun e3 => eq e3.symm
     rw [show (fun q => if q = j then wrap64 (V j + V i) else V q) q = V q from e3]
  ·rw [if_neg (by omega), if_neg e]
 unfold zTouch zNext
 rw [hW, zL_get hs]
 refine List.ext_getElem? fun q => ?_
 have hi := (List.getElem?_eq_some_iff.1 hs).1
 rw [List.getElem?_set, zL_at, zL_at, zL_len]
 by_cases eq : i = q
 ·subst eq
  rw [if_pos rfl, if_pos hi, hs]
  show some _ = some _
  unfold zOf updN
  simp
 ·rw [if_neg eq]
  cases hq : L[q]? with
  | none => rfl
  | some x =>
   refine congrArg some ?_
   unfold zOf
   rw [show updN N i (N i ++ [j]) q = N q from if_neg fun e3 => eq e3.symm]
theorem bump_far {L : List RS} {i j : Nat} (hj : j < L.length) {V : Nat → Int} {q : Nat} (hq : L.length ≤ q) : bump L i V j q = V q := by
 unfold bump
 split
 ·exact if_neg (by omega)
 ·rfl
section
variable {w h : Nat} (hw : w ≤ 7) (hh : h ≤ 7) (hs : w * h ≤ 36) (hw1 : 0 < w) (hh1 : 0 < h)
include hw hh hs hw1 hh1
theorem one_good {t : List Int} {L : List RS} {i d : Nat} {s : RS} (hI : BInv (tiT w h) t L) (hg : ∀ s ∈ L, goodC w h s.x) (hi : L[i]? = some s) (hd : d < 4) {p : List RS × Nat} (hp : bOne (tiT w h) L i s d = some p) : ∀ s ∈ p.1, goodC w h s.x := by
 unfold bOne at hp
 split at hp
 ·cases hp
  exact hg
 ·split at hp
  ·cases hp
  ·cases hp
   intro x hx
   rcases List.mem_append.1 hx with hx | hx
   ·exact hg x hx
   ·rw [List.mem_singleton.1 hx]
    exact good_tilt hw hh hs hw1 hh1 hd (hg s (List.mem_of_getElem? hi))
theorem reS_ev {t : List Int} {i : Nat} {s : RS} {K : Nat → List Zs → Option (List Zs × Bool)} {r : List Zs × Bool} : ∀ (m d : Nat) (L : List RS) (V : Nat → Int) (N : Nat → List Nat) (nx : List Nat), d + m = 4 → nx.length ≤ d → BInv (tiT w h) t L → (∀ s ∈ L, goodC w h s.x) → L[i]? = some s → N i = nx → (∀ q, L.length ≤ q → V q = 0 ∧ N q = []) →
  (bFour (tiT w h) i s (List.range' d m) L nx = none → r = ([], false)) →
  (∀ p ms, bFour (tiT w h) i s (List.range' d m) L nx = some p → p.2 = nx ++ ms → BInv (tiT w h) t p.1 → (∀ s ∈ p.1, goodC w h s.x) → (∃ l, p.1 = L ++ l) → (∀ j ∈ ms, j < p.1.length) → (∀ q, p.1.length ≤ q → vRow p.1 i V ms q = 0 ∧ updN N i p.2 q = []) → Ev (fun k => K k (zL w h p.1 (vRow p.1 i V ms) (updN N i p.2))) r) →
  Ev (fun k => reS k (K k) i m d (zL w h L V N)) r
 | 0, d, L, V, N, nx, hm, hxl, hI, hg, hi, hn, hz, hF, hK => by
  have hil := (List.getElem?_eq_some_iff.1 hi).1;have := hK (L, nx) [] rfl (by simp) hI hg ⟨[], by simp⟩ (fun j hj => by simp at hj) (fun q hq => ⟨(hz q hq).1, by unfold updN; rw [if_neg (by simp at hq; omega)]; exact (hz q hq).2⟩)
  rw [← hn, updN_self] at this
  exact this
 | m + 1, d, L, V, N, nx, hm, hxl, hI, hg, hi, hn, hz, hF, hK => by
  have hd : d < 4 := by omega
  have hil := (List.getElem?_eq_some_iff.1 hi).1;have hlen := hI.len;have hgs := hg s (List.mem_of_getElem? hi);have hgu : goodC w h (tiT w h d s.x) := good_tilt hw hh hs hw1 hh1 hd hgs;have hti : Ev (fun k => spec_tiTilt.f k w h s.x d) ((w : Int), (h : Int), tiltC w h s.x d) := tiTilt_ev hw hh hs hd hw1 hh1 hgs.2;have htx : Ev (fun k => spec_tyText.f k w h (tiltC w h s.x d)) (tx (tiltC w h s.x d) w h) := tyText_ev hw1 hh1 hs hgu.2;have hzi : zAt (zL w h L V N) i = zOf w h V N i s := zL_get hi;have hfi := (b_far hI i s hi).1;have hpl := zPlace_bIdx hw hh hs hw1 hh1 hgu (zL w h L V N) L 0 hg (zL_text w h L V N)
  rw [List.range'_succ] at hF hK
  rw [show tiT w h d s.x = tiltC w h s.x d from rfl] at hpl
  have hfour : ∀ q, bOne (tiT w h) L i s d = q → bFour (tiT w h) i s (d :: List.range' (d + 1) m) L nx = q.bind fun p => bFour (tiT w h) i s (List.range' (d + 1) m) p.1 (nx ++ [p.2]) := fun q e => by rw [bFour, e]
  refine Ev.congr (Ev.bind (f := fun k (o : Int × Int × List Int) => (spec_tyText.f k o.1 o.2.1 o.2.2).bind fun t => if zPlace (zL w h L V N) t 0 < 0 then (if (zL w h L V N).length = 300 then some ([], false) else reS k (K k) i m (d + 1) (zTouch (zL w h L V N ++ [zNew o t (zAt (zL w h L V N) i).far i d]) i (zL w h L V N).length)) else reS k (K k) i m (d + 1) (zTouch (zL w h L V N) i (zPlace (zL w h L V N) t 0).toNat)) hti (Ev.bind (f := fun k (t : ByteArray) => if zPlace (zL w h L V N) t 0 < 0 then (if (zL w h L V N).length = 300 then some ([], false) else reS k (K k) i m (d + 1) (zTouch (zL w h L V N ++ [zNew ((w : Int), (h : Int), tiltC w h s.x d) t (zAt (zL w h L V N) i).far i d]) i (zL w h L V N).length)) else reS k (K k) i m (d + 1) (zTouch (zL w h L V N) i (zPlace (zL w h L V N) t 0).toNat)) htx ?_)) fun k => by rw [reS, hzi, if_pos (show (zOf w h V N i s).next.length ≤ 1000 by unfold zOf; rw [List.length_map, hn]; omega)]; rfl
  cases hb : bIdx L (tiltC w h s.x d) 0 with
  | some j =>
   rw [hb] at hpl
   obtain ⟨_, hj, rr, hr1, hr2⟩ := b_idx_some L _ 0 j hb
   rw [Nat.sub_zero] at hr1
   have hone : bOne (tiT w h) L i s d = some (L, j) := by
    unfold bOne
    rw [show bIdx L (tiT w h d s.x) 0 = some j from hb]
   have hfj := (b_far hI j rr hr1).1
   have hjl : j < L.length := by omega
   refine Ev.congr (g' := fun k => reS k (K k) i m (d + 1) (zL w h L (bump L i V j) (updN N i (N i ++ [j])))) ?_ fun k => ?_
   ·refine reS_ev m (d + 1) L (bump L i V j) (updN N i (N i ++ [j])) (nx ++ [j]) (by omega) (by rw [List.length_append, List.length_singleton]; omega) hI hg hi (by unfold updN; rw [if_pos rfl, hn]) (fun q hq => ⟨by rw [bump_far hjl hq]; exact (hz q hq).1, by unfold updN; rw [if_neg (by omega)]; exact (hz q hq).2⟩) (fun e => hF (by rw [hfour _ hone]; exact e)) fun p ms hp he hI2 hg2 hpre hms hz2 => ?_
    have hfb : bump L i V j = bump p.1 i V j := by
     obtain ⟨l, e⟩ := hpre
     rw [e, bump_pre L l hil hjl]
    have := hK p (j :: ms) (by rw [hfour _ hone]; exact hp) (by rw [he, List.append_assoc]; rfl) hI2 hg2 hpre (fun q hq => by
     rcases List.mem_cons.1 hq with e | hq
     ·obtain ⟨l, e2⟩ := hpre
      rw [e, e2, List.length_append]
      omega
     ·exact hms q hq) (fun q hq => ⟨by show vRow p.1 i (bump p.1 i V j) ms q = 0; rw [← hfb]; exact (hz2 q hq).1, by have := (hz2 q hq).2; rw [updN_upd] at this; exact this⟩)
    rw [updN_upd]
    rw [hfb]
    exact this
   ·rw [hpl]
    show (if ((j : Nat) : Int) < 0 then _ else _) = _
    rw [if_neg (by omega), Int.toNat_natCast, zL_touch hi hr1 (by omega) (by omega)]
  | none =>
   rw [hb] at hpl
   by_cases hL : L.length = 300
   ·have hone : bOne (tiT w h) L i s d = none := by
     unfold bOne
     rw [show bIdx L (tiT w h d s.x) 0 = none from hb]
     exact if_pos hL
    rw [hF (by rw [hfour _ hone]; rfl)]
    refine Ev.congr (Ev.const rfl) fun k => ?_
    rw [hpl, if_pos (by decide), if_pos (by rw [zL_len]; exact hL)]
   ·have hone : bOne (tiT w h) L i s d = some (L ++ [⟨tiltC w h s.x d, s.far + 1, s.word ++ [d], i, d⟩], L.length) := by
     unfold bOne
     rw [show bIdx L (tiT w h d s.x) 0 = none from hb]
     exact if_neg hL
    obtain ⟨hI1, _, _⟩ := hI.one (tiT w h) hi hd hone;have hg1 := one_good hw hh hs hw1 hh1 hI hg hi hd hone;generalize hs1 : (⟨tiltC w h s.x d, s.far + 1, s.word ++ [d], i, d⟩ : RS) = s1 at hone hI1 hg1
    have hi1 : (L ++ [s1])[i]? = some s := by rw [List.getElem?_append_left hil]; exact hi
    have hr1 : (L ++ [s1])[L.length]? = some s1 := by simp
    have hnew : zNew ((w : Int), (h : Int), tiltC w h s.x d) (tx (tiltC w h s.x d) w h) (s.far : Int) i d = zOf w h V N L.length s1 := by
     obtain ⟨v0, n0⟩ := hz L.length (Nat.le_refl _)
     rw [← hs1]
     unfold zNew zOf
     rw [v0, n0, w64 (n := (s.far : Int) + 1) (by omega) (by omega)]
     rfl
    refine Ev.congr (g' := fun k => reS k (K k) i m (d + 1) (zL w h (L ++ [s1]) (bump (L ++ [s1]) i V L.length) (updN N i (N i ++ [L.length])))) ?_ fun k => ?_
    ·refine reS_ev m (d + 1) (L ++ [s1]) (bump (L ++ [s1]) i V L.length) (updN N i (N i ++ [L.length])) (nx ++ [L.length]) (by omega) (by rw [List.length_append, List.length_singleton]; omega) hI1 hg1 hi1 (by unfold updN; rw [if_pos rfl, hn]) (fun q hq => ?_) (fun e => hF (by rw [hfour _ hone]; exact e)) fun p ms hp he hI2 hg2 hpre hms hz2 => ?_
     ·rw [List.length_append, List.length_singleton] at hq
      exact ⟨by rw [bump_far (by simp) (by simp; omega)]; exact (hz q (by omega)).1, by unfold updN; rw [if_neg (by omega)]; exact (hz q (by omega)).2⟩
     ·have hfb : bump (L ++ [s1]) i V L.length = bump p.1 i V L.length := by
       obtain ⟨l, e⟩ := hpre
       rw [e, bump_pre (L ++ [s1]) l (by simp; omega) (by simp)]
      have := hK p (L.length :: ms) (by rw [hfour _ hone]; exact hp) (by rw [he, List.append_assoc]; rfl) hI2 hg2 (by obtain ⟨l, e⟩ := hpre; exact ⟨[s1] ++ l, by rw [e, List.append_assoc]⟩) (fun q hq => by
       rcases List.mem_cons.1 hq with e | hq
       ·obtain ⟨l, e2⟩ := hpre
        rw [e, e2]
        simp
       ·exact hms q hq) (fun q hq => ⟨by show vRow p.1 i (bump p.1 i V L.length) ms q = 0; rw [← hfb]; exact (hz2 q hq).1, by have := (hz2 q hq).2; rw [updN_upd] at this; exact this⟩)
      rw [updN_upd]
      rw [hfb]
      exact this
    ·rw [hpl, if_pos (by decide), if_neg (by rw [zL_len]; exact hL), hzi, show (zOf w h V N i s).far = (s.far : Int) from rfl, hnew, zL_add, zL_len, zL_touch hi1 hr1 (by omega) (by have := (b_far hI1 L.length s1 hr1).1; omega)]
def foundZ (w h : Nat) (p : List RS × List (List Nat)) : List Zs := zL w h p.1 (vRows p.1 0 V0 p.2) fun q => p.2.getD q []
def foundR (w h : Nat) : Option (List RS × List (List Nat)) → List Zs × Bool
 | none => ([], false)
 | some p => (foundZ w h p, true)
theorem reA_ev {t : List Int} : ∀ (m i : Nat) (L : List RS) (V : Nat → Int) (N : List (List Nat)), m + i = 301 → i ≤ L.length → N.length = i → BInv (tiT w h) t L → (∀ s ∈ L, goodC w h s.x) → (∀ nx ∈ N, ∀ j ∈ nx, j < L.length) → (∀ q, L.length ≤ q → V q = 0) → V = vRows L 0 V0 N →
  Ev (fun k => reA k m i (zL w h L V fun q => N.getD q [])) (foundR w h (bAll (tiT w h) m i L N))
 | 0, i, L, V, N, hm, hi, hN, hI, hg, hj, hz, hV => by
  have := hI.len
  omega
 | m + 1, i, L, V, N, hm, hi, hN, hI, hg, hj, hz, hV => by
  by_cases hil : i < L.length
  ·obtain ⟨s, hs'⟩ : ∃ s, L[i]? = some s := ⟨_, List.getElem?_eq_getElem hil⟩
   have hb : bAll (tiT w h) (m + 1) i L N = (bFour (tiT w h) i s [0, 1, 2, 3] L []).bind fun p => bAll (tiT w h) m (i + 1) p.1 (N ++ [p.2]) := by
    rw [bAll, hs']
   rw [hb]
   refine Ev.congr (reS_ev hw hh hs hw1 hh1 (t := t) (i := i) (s := s) (K := fun k L => reA k m (i + 1) L) 4 0 L V (fun q => N.getD q []) [] rfl (Nat.le_refl _) hI hg hs' (by rw [List.getD_eq_getElem?_getD, List.getElem?_eq_none (by omega)]; rfl) (fun q hq => ⟨hz q hq, by rw [List.getD_eq_getElem?_getD, List.getElem?_eq_none (by omega)]; rfl⟩) (fun e => ?_) fun p ms hp he hI2 hg2 hpre hms hz2 => ?_) fun k => ?_
   ·rw [show bFour (tiT w h) i s [0, 1, 2, 3] L [] = none from e]
    rfl
   ·rw [show bFour (tiT w h) i s [0, 1, 2, 3] L [] = some p from hp]
    obtain ⟨l, hl⟩ := hpre
    rw [List.nil_append] at he
    subst he
    have hNN : updN (fun q => N.getD q []) i p.2 = fun q => (N ++ [p.2]).getD q [] := by
     funext q
     unfold updN
     rw [List.getD_eq_getElem?_getD]
     by_cases e : q = i
     ·subst e
      rw [if_pos rfl, ← hN]
      simp
     ·rw [if_neg e]
      show N.getD q [] = _
      rcases Nat.lt_or_ge q N.length with h1 | h1
      ·rw [List.getElem?_append_left h1, List.getD_eq_getElem?_getD]
      ·rw [List.getElem?_eq_none (by simp; omega), List.getD_eq_getElem?_getD, List.getElem?_eq_none h1]
    rw [hNN]
    refine reA_ev m (i + 1) p.1 _ (N ++ [p.2]) (by omega) (by rw [hl]; simp; omega) (by simp [hN]) hI2 hg2 (fun nx hnx j hj2 => ?_) (fun q hq => (hz2 q hq).1) ?_
    ·rcases List.mem_append.1 hnx with hnx | hnx
     ·rw [hl, List.length_append]
      have := hj nx hnx j hj2
      omega
     ·rw [List.mem_singleton.1 hnx] at hj2
      exact hms j hj2
    ·rw [vRows_snoc, Nat.zero_add, hN, hV, hl, vRows_pre L l N 0 V0 (by omega) hj]
   ·rw [reA, zL_len, if_pos hil]
  ·have hb : bAll (tiT w h) (m + 1) i L N = some (L, N) := by
    rw [bAll, List.getElem?_eq_none (by omega)]
   rw [hb]
   refine Ev.congr (Ev.const (o := some (zL w h L V fun q => N.getD q [], true)) ?_) fun k => ?_
   ·show some _ = some (foundZ w h (L, N), true)
    unfold foundZ
    rw [hV]
   ·rw [reA, zL_len, if_neg hil]
end
def start (cs : List Int) : List RS := [⟨cs, 0, [], -1, 0⟩]
def search (w h : Nat) (cs : List Int) : Option (List RS × List (List Nat)) := bAll (tiT w h) 301 0 (start cs) []
def reAllR (t : ByteArray) : List Zs × Bool := match trayOf t with
 | none => ([], false)
 | some (w, h, cs) => foundR w.toNat h.toNat (search w.toNat h.toNat cs)
theorem reAll_ev (t : ByteArray) : Ev (fun k => spec_reAll.f k t) (reAllR t) := by
 refine Ev.bind (f := fun k (g : Int × Int × List Int × Bool) => if g.2.2.2 = true then reA k 301 0 [⟨g.1, g.2.1, g.2.2.1, t, 0, 1, -1, 0, []⟩] else some ([], false)) (tyRead_ev t) ?_
 unfold reAllR
 rcases ht : trayOf t with _ | ⟨w, h, cs⟩
 ·exact Ev.congr (Ev.const rfl) fun k => if_neg Bool.false_ne_true
 ·obtain ⟨w, h, cs, e, hw1, hw, hh1, hh, hs, hn⟩ := tray_parts ht
  injection e with e1 e2
  injection e2 with e2 e3
  subst e1 e2 e3;obtain ⟨hc, htx, _⟩ := tray_own ht
  show Ev _ (foundR w h (search w h cs))
  refine Ev.congr (reA_ev hw hh hs hw1 hh1 (t := cs) 301 0 (start cs) V0 [] rfl (Nat.zero_le _) rfl (BInv.made _ cs) (fun s hs => ?_) (fun nx hnx => by simp at hnx) (fun q hq => if_neg (by simp [start] at hq; omega)) rfl) fun k => ?_
  ·rw [List.mem_singleton.1 hs]
   exact ⟨hc, hn⟩
  ·show (if true = true then reA k 301 0 [_] else _) = _
   rw [if_pos rfl, ← htx]
   rfl
end Go.Proofs.YtchjgphnglklcaaGreatDoor.Q
end
section
namespace Go.Proofs.YtchjgphnglklcaaGreatDoor.Q
set_option linter.unusedSectionVars false
set_option linter.unusedVariables false
open Go.RowKit Go.Proofs.YtchjgphnglklcaaGreatDoorW.PrintWords Go.Proofs.YtchjgphnglklcaaGreatDoorW.PrintLast Go.Proofs.YtchjgphnglklcaaGreatDoorW.PrintMore
def casts (l : List Nat) : List Int := l.map fun j => ((j : Nat) : Int)
def txs (w h : Nat) (L : List RS) : List ByteArray := L.map fun s => tx s.x w h
def txl (w h : Nat) (L : List RS) : List (List UInt8) := L.map fun s => (tx s.x w h).data.toList
def fars (L : List RS) : List Int := L.map fun s => ((s.far : Nat) : Int)
def wordT (l : List Nat) : ByteArray := strOfNums (l.map dirC)
def wds (L : List RS) : List ByteArray := L.map fun s => wordT s.word
theorem rdOf_map {α β : Type} (z : β) (f : α → β) {L : List α} {i : Nat} {s : α} (h : L[i]? = some s) : rdOf z (L.map f) (i : Int) = f s := by
 unfold rdOf
 rw [Int.toNat_natCast, List.getD_eq_getElem?_getD, List.getElem?_map, h]
 rfl
theorem rd_fars {L : List RS} {i : Nat} {s : RS} (h : L[i]? = some s) : rd (fars L) (i : Int) = (s.far : Int) := by
 unfold rd fars
 rw [Int.toNat_natCast, List.getD_eq_getElem?_getD, List.getElem?_map, h]
 rfl
def failI : ReR := ([], [], [], [], false)
section
variable {w h : Nat} (hw : w ≤ 7) (hh : h ≤ 7) (hs : w * h ≤ 36) (hw1 : 0 < w) (hh1 : 0 < h)
include hw hh hs hw1 hh1
theorem reI_ev {t : List Int} {i : Nat} {s : RS} {K : Nat → List ByteArray → List Int → List ByteArray → (List UInt8 → Option Int) → List Int → Option ReR} {r : ReR} : ∀ (ds : List Nat) (L : List RS) (nx : List Nat), (∀ d ∈ ds, d < 4) → BInv (tiT w h) t L → (∀ s ∈ L, goodC w h s.x) → L[i]? = some s →
  (bFour (tiT w h) i s ds L nx = none → r = failI) →
  (∀ p, bFour (tiT w h) i s ds L nx = some p → BInv (tiT w h) t p.1 → (∀ s ∈ p.1, goodC w h s.x) → (∃ l, p.1 = L ++ l) → Ev (fun k => K k (txs w h p.1) (fars p.1) (wds p.1) (fS (txl w h p.1)) (casts p.2)) r) →
  Ev (fun k => reI k (K k) i w h s.x (ds.map dirC) (txs w h L) (fars L) (wds L) (fS (txl w h L)) (casts nx)) r
 | [], L, nx, hd, hI, hg, hi, hF, hK => hK (L, nx) rfl hI hg ⟨[], by simp⟩
 | d :: ds, L, nx, hd, hI, hg, hi, hF, hK => by
  have hd4 : d < 4 := hd d (by simp);have hil := (List.getElem?_eq_some_iff.1 hi).1;have hlen := hI.len;have hgs := hg s (List.mem_of_getElem? hi);have hgu : goodC w h (tiT w h d s.x) := good_tilt hw hh hs hw1 hh1 hd4 hgs;have hti : Ev (fun k => impl_tray_tilted.f k w h s.x (dirC d)) ((w : Int), (h : Int), tiltC w h s.x d) := tilted_ev hw hh hs hd4 hw1 hh1 hgs.2;have htx := text_val w h (tiltC w h s.x d) hw1 hh1 hs hgu.2;have hsz := tx_size (w := w) (h := h) (cs := tiltC w h s.x d) hw1 hw hh1 hh hs hgu.2;obtain ⟨hfi, hwi, _⟩ := b_far hI i s hi;have hrw : rdOf ByteArray.empty (wds L) (i : Int) = wordT s.word := rdOf_map ByteArray.empty (fun s : RS => wordT s.word) hi
  have hws : (wordT s.word).size ≤ 1000000 := by
   unfold wordT
   rw [son_size, List.length_map]
   omega
  have hix : idxS (txl w h L) (tx (tiltC w h s.x d) w h).data.toList 0 = bIdx L (tiltC w h s.x d) 0 := idxS_bIdx hw hh hs hw1 hh1 hgu L 0 hg
  have hfour : ∀ q, bOne (tiT w h) L i s d = q → bFour (tiT w h) i s (d :: ds) L nx = q.bind fun p => bFour (tiT w h) i s ds p.1 (nx ++ [p.2]) := fun q e => by rw [bFour, e]
  have hca : ∀ j : Nat, casts nx ++ [(j : Int)] = casts (nx ++ [j]) := fun j => by unfold casts; rw [List.map_append]; rfl
  refine Ev.congr (Ev.bind (f := fun k (g : Int × Int × List Int) => (impl_tray_text.f g.1 g.2.1 g.2.2).bind fun u => if u.size ≤ 1048576 ∧ (rdOf ByteArray.empty (wds L) (i : Int)).size ≤ 1000000 then (match fS (txl w h L) u.data.toList with
   | some c => reI k (K k) i w h s.x (ds.map dirC) (txs w h L) (fars L) (wds L) (fS (txl w h L)) (casts nx ++ [c])
   | none => if (txs w h L).length = 300 then some failI else reI k (K k) i w h s.x (ds.map dirC) (txs w h L ++ [u]) (fars L ++ [wrap64 (rd (fars L) (i : Int) + 1)]) (wds L ++ [rdOf ByteArray.empty (wds L) (i : Int) ++ strOfNums [dirC d]]) (updS (fS (txl w h L)) u.data.toList ((txs w h L).length : Int)) (casts nx ++ [((txs w h L).length : Int)])) else none) hti ?_) fun k => rfl
  cases hb : bIdx L (tiltC w h s.x d) 0 with
  | some j =>
   have hone : bOne (tiT w h) L i s d = some (L, j) := by
    unfold bOne
    rw [show bIdx L (tiT w h d s.x) 0 = some j from hb]
   rw [hb] at hix
   refine Ev.congr (reI_ev ds L (nx ++ [j]) (fun d' h' => hd d' (by simp [h'])) hI hg hi (fun e => hF (by rw [hfour _ hone]; exact e)) fun p hp => hK p (by rw [hfour _ hone]; exact hp)) fun k => ?_
   show (impl_tray_text.f (w : Int) (h : Int) (tiltC w h s.x d)).bind _ = _
   rw [htx, Option.bind_some, hrw, if_pos ⟨hsz, hws⟩, fS_some hix]
   show reI k (K k) i w h s.x (ds.map dirC) (txs w h L) (fars L) (wds L) (fS (txl w h L)) (casts nx ++ [(j : Int)]) = _
   rw [hca]
  | none =>
   rw [hb] at hix
   have hTl : (txs w h L).length = L.length := List.length_map ..
   by_cases hL : L.length = 300
   ·have hone : bOne (tiT w h) L i s d = none := by
     unfold bOne
     rw [show bIdx L (tiT w h d s.x) 0 = none from hb]
     exact if_pos hL
    rw [hF (by rw [hfour _ hone]; rfl)]
    refine Ev.congr (Ev.const (o := some failI) rfl) fun k => ?_
    show (impl_tray_text.f (w : Int) (h : Int) (tiltC w h s.x d)).bind _ = _
    rw [htx, Option.bind_some, hrw, if_pos ⟨hsz, hws⟩, fS_none hix, hTl]
    exact if_pos hL
   ·have hone : bOne (tiT w h) L i s d = some (L ++ [⟨tiltC w h s.x d, s.far + 1, s.word ++ [d], i, d⟩], L.length) := by
     unfold bOne
     rw [show bIdx L (tiT w h d s.x) 0 = none from hb]
     exact if_neg hL
    obtain ⟨hI1, _, _⟩ := hI.one (tiT w h) hi hd4 hone;have hg1 := one_good hw hh hs hw1 hh1 hI hg hi hd4 hone
    refine Ev.congr (reI_ev ds (L ++ [⟨tiltC w h s.x d, s.far + 1, s.word ++ [d], i, d⟩]) (nx ++ [L.length]) (fun d' h' => hd d' (by simp [h'])) hI1 hg1 (by rw [List.getElem?_append_left hil]; exact hi) (fun e => hF (by rw [hfour _ hone]; exact e)) fun p hp hI2 hg2 hpre => hK p (by rw [hfour _ hone]; exact hp) hI2 hg2 (by obtain ⟨l, e⟩ := hpre; exact ⟨_, by rw [e, List.append_assoc]⟩)) fun k => ?_
    show (impl_tray_text.f (w : Int) (h : Int) (tiltC w h s.x d)).bind _ = _
    rw [htx, Option.bind_some, hrw, if_pos ⟨hsz, hws⟩, fS_none hix, hTl]
    show (if L.length = 300 then _ else _) = _
    rw [if_neg hL, hca, rd_fars hi, w64 (n := (s.far : Int) + 1) (by omega) (by omega)]
    have e1 : txs w h L ++ [tx (tiltC w h s.x d) w h] = txs w h (L ++ [⟨tiltC w h s.x d, s.far + 1, s.word ++ [d], i, d⟩]) := by unfold txs; rw [List.map_append]; rfl
    have e2 : fars L ++ [(s.far : Int) + 1] = fars (L ++ [⟨tiltC w h s.x d, s.far + 1, s.word ++ [d], i, d⟩]) := by unfold fars; rw [List.map_append]; rfl
    have e3 : wds L ++ [wordT s.word ++ strOfNums [dirC d]] = wds (L ++ [⟨tiltC w h s.x d, s.far + 1, s.word ++ [d], i, d⟩]) := by
     unfold wds
     rw [List.map_append]
     refine congrArg (fun z => _ ++ [z]) ?_
     show wordT s.word ++ strOfNums [dirC d] = wordT (s.word ++ [d])
     unfold wordT
     rw [son_append, List.map_append]
     rfl
    have e4 : updS (fS (txl w h L)) (tx (tiltC w h s.x d) w h).data.toList (L.length : Int) = fS (txl w h (L ++ [⟨tiltC w h s.x d, s.far + 1, s.word ++ [d], i, d⟩])) := by
     have := fS_snoc hix
     rw [show (txl w h L).length = L.length from List.length_map ..] at this
     unfold updS
     rw [this]
     unfold txl
     rw [List.map_append]
     rfl
    rw [e1, e2, e3, e4]
theorem read_tx {cs : List Int} (hc : goodC w h cs) : impl_read.f (tx cs w h) = some ((w : Int), (h : Int), cs) := by
 have hr := tx_rows hw1 hw hh1 hh hs hc.2 hc.1;have hf := tx_flat hw1 hw hh1 hh hs hc.2 hc.1;have hsz := tx_size (w := w) (h := h) (cs := cs) hw1 hw hh1 hh hs hc.2
 have hrl : (rowsL (tx cs w h)).map (fun x => x.data.toList) = (List.range h).map (rowL cs w) := by rw [rowsL_map, hr]
 have hlen : (rowsL (tx cs w h)).length = h := by
  have := congrArg List.length hrl
  simpa using this
 have h0 : ((rowsL (tx cs w h)).getD 0 ByteArray.empty).size = w := by
  rw [List.getD_eq_getElem?_getD, List.getElem?_eq_getElem (by omega)]
  have h1 : ((rowsL (tx cs w h)).map (fun x => x.data.toList))[0]? = ((List.range h).map (rowL cs w))[0]? := by rw [hrl]
  rw [List.getElem?_map, List.getElem?_map, List.getElem?_eq_getElem (by omega), List.getElem?_eq_getElem (by simpa using hh1)] at h1
  have h2 := Option.some.inj h1
  rw [List.getElem_range] at h2
  show ((rowsL (tx cs w h))[0]).size = w
  rw [← data_length, show (rowsL (tx cs w h))[0].data.toList = rowL cs w 0 from h2]
  unfold rowL
  rw [List.length_map, row_len cs w 0 h (by rw [hc.2, Nat.mul_comm]) hh1]
 unfold impl_read.f
 rw [if_pos hsz, h0, hlen, joined_ints, hr, hf]
def foundI (w h : Nat) (p : List RS × List (List Nat)) : ReR := (txs w h p.1, fars p.1, p.2.map casts, wds p.1, true)
def foundIR (w h : Nat) : Option (List RS × List (List Nat)) → ReR
 | none => failI
 | some p => foundI w h p
theorem reO_ev {t : List Int} : ∀ (m i : Nat) (L : List RS) (N : List (List Nat)), m + i = 301 → i ≤ L.length → BInv (tiT w h) t L → (∀ s ∈ L, goodC w h s.x) →
  Ev (fun k => reO k m i (txs w h L) (fars L) (N.map casts) (wds L) (fS (txl w h L))) (foundIR w h (bAll (tiT w h) m i L N))
 | 0, i, L, N, hm, hi, hI, hg => by
  have := hI.len
  omega
 | m + 1, i, L, N, hm, hi, hI, hg => by
  have hTl : (txs w h L).length = L.length := List.length_map ..
  by_cases hil : i < L.length
  ·obtain ⟨s, hs'⟩ : ∃ s, L[i]? = some s := ⟨_, List.getElem?_eq_getElem hil⟩
   have hgs := hg s (List.mem_of_getElem? hs')
   have hb : bAll (tiT w h) (m + 1) i L N = (bFour (tiT w h) i s [0, 1, 2, 3] L []).bind fun p => bAll (tiT w h) m (i + 1) p.1 (N ++ [p.2]) := by
    rw [bAll, hs']
   rw [hb]
   refine Ev.congr (reI_ev hw hh hs hw1 hh1 (t := t) (i := i) (s := s) (K := fun k T F W f nx => reO k m (i + 1) T F (N.map casts ++ [nx]) W f) [0, 1, 2, 3] L [] (by decide) hI hg hs' (fun e => ?_) fun p hp hI2 hg2 hpre => ?_) fun k => ?_
   ·rw [e]
    rfl
   ·rw [hp]
    obtain ⟨l, hl⟩ := hpre;have := reO_ev m (i + 1) p.1 (N ++ [p.2]) (by omega) (by rw [hl]; simp; omega) hI2 hg2
    rw [List.map_append] at this
    exact this
   ·rw [reO, hTl, if_pos hil, show rdOf ByteArray.empty (txs w h L) (i : Int) = tx s.x w h from rdOf_map ByteArray.empty (fun s : RS => tx s.x w h) hs', read_tx hw hh hs hw1 hh1 hgs, Option.bind_some]
    rfl
  ·have hb : bAll (tiT w h) (m + 1) i L N = some (L, N) := by
    rw [bAll, List.getElem?_eq_none (by omega)]
   rw [hb]
   refine Ev.congr (Ev.const (o := some (foundI w h (L, N))) rfl) fun k => ?_
   rw [reO, hTl, if_neg hil]
   rfl
end
def reachR (t : ByteArray) : ReR := match trayOf t with
 | none => failI
 | some (w, h, cs) => foundIR w.toNat h.toNat (search w.toNat h.toNat cs)
theorem reachOf_ev (t : ByteArray) (ht0 : t.size ≤ 1048576) : Ev (fun k => impl_reachOf.f k t) (reachR t) := by
 refine Ev.bind (f := fun k (b : Bool) => if b = true then (if t.size ≤ 1048576 then reO k 301 0 [t] [0] [] [⟨#[]⟩] (updS (fun _ => none) t.data.toList 0) else none) else some ([], [], [], [], false)) (isTray_ev t ht0) ?_
 unfold reachR
 rcases ht : trayOf t with _ | ⟨w, h, cs⟩
 ·exact Ev.congr (Ev.const rfl) fun k => if_neg (by simp)
 ·obtain ⟨w, h, cs, e, hw1, hw, hh1, hh, hs, hn⟩ := tray_parts ht
  injection e with e1 e2
  injection e2 with e2 e3
  subst e1 e2 e3;obtain ⟨hc, htx, _⟩ := tray_own ht
  show Ev _ (foundIR w h (search w h cs))
  refine Ev.congr (reO_ev hw hh hs hw1 hh1 (t := cs) 301 0 (start cs) [] rfl (Nat.zero_le _) (BInv.made _ cs) (fun s hs => ?_)) fun k => ?_
  ·rw [List.mem_singleton.1 hs]
   exact ⟨hc, hn⟩
  ·show (if true = true then (if t.size ≤ 1048576 then _ else _) else _) = _
   rw [if_pos rfl, if_pos ht0]
   have e1 : txs w h (start cs) = [t] := by
    show [tx cs w h] = [t]
    rw [htx]
   have e2 : fS (txl w h (start cs)) = updS (fun _ => none) t.data.toList 0 := by
    funext x
    show fS [(tx cs w h).data.toList] x = _
    rw [htx]
    unfold fS updS
    rw [idxS]
    by_cases e : t.data.toList = x
    ·rw [if_pos e, if_pos e.symm]
     rfl
    ·rw [if_neg e, if_neg fun e2 => e e2.symm]
     rfl
   rw [e1, e2]
   rfl
end Go.Proofs.YtchjgphnglklcaaGreatDoor.Q
end
section
namespace Go.Proofs.YtchjgphnglklcaaGreatDoor.Q
set_option linter.unusedSectionVars false
open Go.RowKit Go.Proofs.YtchjgphnglklcaaGreatDoorW.PrintWords Go.Proofs.YtchjgphnglklcaaGreatDoorW.PrintLast Go.Proofs.YtchjgphnglklcaaGreatDoorW.PrintMore
structure Found (t : ByteArray) (w h : Nat) (cs : List Int) (p : List RS × List (List Nat)) : Prop where
 tray : trayOf t = some ((w : Int), (h : Int), cs)
 hw1 : 0 < w
 hw : w ≤ 7
 hh1 : 0 < h
 hh : h ≤ 7
 hs : w * h ≤ 36
 all : reAllR t = (foundZ w h p, true)
 prog : reachR t = foundI w h p
 done : BDone (tiT w h) cs p.1 p.2
 good : ∀ s ∈ p.1, goodC w h s.x
 srch : search w h cs = some p
 up : ∃ q, BSorted p.1 q
theorem way_good {w h : Nat} (hw : w ≤ 7) (hh : h ≤ 7) (hs : w * h ≤ 36) (hw1 : 0 < w) (hh1 : 0 < h) {t y : List Int} (ht : goodC w h t) (hy : BWay (tiT w h) t y) : goodC w h y := by
 induction hy with
 | here => exact ht
 | go d hd _ ih => exact good_tilt hw hh hs hw1 hh1 hd ih
theorem found_cases (t : ByteArray) : (reAllR t = ([], false) ∧ reachR t = failI) ∨ ∃ w h cs p, Found t w h cs p := by
 rcases ht : trayOf t with _ | ⟨w, h, cs⟩
 ·left
  unfold reAllR reachR
  rw [ht]
  exact ⟨rfl, rfl⟩
 ·obtain ⟨w, h, cs, e, hw1, hw, hh1, hh, hs, hn⟩ := tray_parts ht
  injection e with e1 e2
  injection e2 with e2 e3
  subst e1 e2 e3;obtain ⟨hc, htx, _⟩ := tray_own ht
  have h1 : reAllR t = foundR w h (search w h cs) := by
   unfold reAllR
   rw [ht]
   rfl
  have h2 : reachR t = foundIR w h (search w h cs) := by
   unfold reachR
   rw [ht]
   rfl
  cases hp : search w h cs with
  | none =>
   left
   rw [h1, h2, hp]
   exact ⟨rfl, rfl⟩
  | some p =>
   right
   have hd : BDone (tiT w h) cs p.1 p.2 := b_all_fin (tiT w h) 301 0 (start cs) [] p rfl (Nat.zero_le _) rfl (BInv.made _ cs) (fun j s hj => absurd hj (Nat.not_lt_zero _)) hp
   refine ⟨w, h, cs, p, ht, hw1, hw, hh1, hh, hs, by rw [h1, hp]; rfl, by rw [h2, hp]; rfl, hd, fun s hm => ?_, hp, b_all_up (tiT w h) hp⟩
   obtain ⟨k, hk⟩ := List.getElem?_of_mem hm
   exact way_good hw hh hs hw1 hh1 ⟨hc, hn⟩ (hd.inv.way (tiT w h) k s hk)
section
variable {t : ByteArray} {w h : Nat} {cs : List Int} {p : List RS × List (List Nat)} (H : Found t w h cs p)
include H
theorem Found.len : p.1.length ≤ 300 := H.done.inv.len
end
def found (t : ByteArray) : Option (List RS × List (List Nat)) := match trayOf t with
 | none => none
 | some (w, h, cs) => search w.toNat h.toNat cs
theorem Found.found {t : ByteArray} {w h : Nat} {cs : List Int} {p : List RS × List (List Nat)} (H : Found t w h cs p) : found t = some p := by
 unfold Q.found
 rw [H.tray]
 exact H.srch
theorem found_none {t : ByteArray} (h : reAllR t = ([], false)) : found t = none := by
 unfold Q.found;unfold reAllR at h
 rcases ht : trayOf t with _ | ⟨w, h', cs⟩
 ·rfl
 ·rw [ht] at h
  show search w.toNat h'.toNat cs = none
  have h1 : foundR w.toNat h'.toNat (search w.toNat h'.toNat cs) = ([], false) := h
  cases hp : search w.toNat h'.toNat cs with
  | none => rfl
  | some p =>
   rw [hp] at h1
   exact absurd (show true = false from congrArg Prod.snd h1) (by decide)
end Go.Proofs.YtchjgphnglklcaaGreatDoor.Q
end
section
namespace Go.Proofs.YtchjgphnglklcaaGreatDoor.Q
set_option linter.unusedSectionVars false
set_option linter.unusedSimpArgs false
open Go.RowKit Go.Proofs.YtchjgphnglklcaaGreatDoorW.PrintWords Go.Proofs.YtchjgphnglklcaaGreatDoorW.PrintLast Go.Proofs.YtchjgphnglklcaaGreatDoorW.PrintMore
theorem drop_zAt {L : List Zs} {i : Nat} (h : i < L.length) : L.drop i = zAt L i :: L.drop (i + 1) ∧ L[i]? = some (zAt L i) := by
 have e : zAt L i = L[i] := by
  unfold zAt
  rw [List.getD_eq_getElem?_getD, List.getElem?_eq_getElem h]
  rfl
 rw [e]
 exact ⟨List.drop_eq_getElem_cons h, List.getElem?_eq_getElem h⟩
set_option maxHeartbeats 4000000 in
set_option maxRecDepth 100000 in
theorem spec_rePlace.calls (A : Option Addr) (n c : Nat) (L : List Zs) (tx : ByteArray) (w : World) (hn : n = L.length) (hL : StC w A L) (hl : L.length ≤ 1000) (hc : n ≤ c) :
  Calls Tryz.prog 39 #[.slice A n c, .string tx] w fun e w' => e = .returned (.int .i64 (zPlace L tx 0)) ∧ Drawn0 w w' := by
 subst hn;have HL := Aside0.mk hL;have HC := Aside0.mk hc;have HN := Aside0.mk hl;clear hL hc hl
 go_enter Tryz.func39, Tryz.ntmps39
 go_wp2
 go_loopg [9] L.length (fun gg v9 w' => ∃ i : Nat, v9 = .int .i64 i ∧ Aside0 ((i ≤ L.length ∧ L.length - i ≤ gg) ∧ zPlace (L.drop i) tx i = zPlace L tx 0) ∧ Drawn0 w w')
 case atStart => exact ⟨0, by first | rfl | (simp; done), ⟨⟨Nat.zero_le _, Nat.le_refl _⟩, rfl⟩, Drawn0.refl _⟩
 case round =>
  obtain ⟨i, rfl, HA, ⟨m1, rfl⟩⟩ := hrel
  by_cases hli : i < L.length
  ·have c2 : decide ((i : Int) < (L.length : Int)) = true := decide_eq_true (by omega)
   have p1 : (0 ≤ (i : Int)) = True := eq_true (by omega);have p2 : ((i : Int) < (L.length : Int)) = True := eq_true (by omega);obtain ⟨hd, hat⟩ := drop_zAt hli;obtain ⟨ad, g, Ag, An, cg, cn, e1, h2, h3, _, _⟩ := HL.out.at' i (zAt L i) hat
   cases e1
   have hz := HA.out.2
   rw [hd, zPlace] at hz
   have HGK := Aside0.mk (show L.length - i ≤ gk ∧ i < L.length from ⟨HA.out.1.2, hli⟩);have z3 : w.cell? ⟨g, 3, none⟩ = some (.string (zAt L i).text) := (blk_cell h3 3).trans rfl;clear h3 hd hat hli HA;generalize zAt L i = z at z3 hz
   by_cases e : z.text.toList = tx.toList
   ·rw [if_pos e] at hz
    have c6b0 : (z.text.toList == tx.toList) = true := beq_iff_eq.mpr e;have c6b1 : (z.text.toList != tx.toList) = false := bne_eq_false_iff_eq.mpr e;have HZ := Aside0.mk hz;clear e hz
    go_wp2
    go_ret
    exact ⟨congrArg (fun x => Ending.returned (Value.int .i64 x)) HZ.out, by repeat (first | exact Drawn0.refl _ | apply Drawn0.step)⟩
   ·rw [if_neg e] at hz
    have c6b0 : (z.text.toList == tx.toList) = false := beq_eq_false_iff_ne.mpr e;have c6b1 : (z.text.toList != tx.toList) = true := bne_iff_ne.mpr e;have HZ := Aside0.mk hz;clear e hz
    go_wp2
    go_roundg (L.length - (i + 1))
    case measure => have := HGK.out; omega
    case rel => exact ⟨i + 1, by first | rfl | rw [wrap64_nat i (by have := HGK.out; have := HN.out; omega)] | simp, ⟨⟨by have := HGK.out; omega, Nat.le_refl _⟩, HZ.out⟩, by repeat (first | exact Drawn0.refl _ | apply Drawn0.step)⟩
  ·obtain rfl : i = L.length := by have := HA.out.1.1; omega
   have c2 : decide ((L.length : Int) < (L.length : Int)) = false := decide_eq_false (by omega);have hz := HA.out.2
   rw [List.drop_length] at hz
   have HZ := Aside0.mk hz;clear hz HA hli
   go_wp2
   go_ret
   exact ⟨congrArg (fun x => Ending.returned (Value.int .i64 x)) HZ.out, by repeat (first | exact Drawn0.refl _ | apply Drawn0.step)⟩
end Go.Proofs.YtchjgphnglklcaaGreatDoor.Q
end
section
namespace Go.Proofs.YtchjgphnglklcaaGreatDoor.Q
set_option linter.unusedSectionVars false
set_option linter.unusedSimpArgs false
open Go.RowKit Go.Proofs.YtchjgphnglklcaaGreatDoorW.PrintWords Go.Proofs.YtchjgphnglklcaaGreatDoorW.PrintLast Go.Proofs.YtchjgphnglklcaaGreatDoorW.PrintMore
theorem zAt_map {M : List Zm} {i : Nat} {m : Zm} (h : M[i]? = some m) : zAt (M.map Zm.z) i = m.z := by
 unfold zAt
 rw [List.getD_eq_getElem?_getD, List.getElem?_map, h]
 rfl
theorem SB.made {w1 w2 : World} {v : Value} {g : Nat} {vg : Value} {z : Zs} {B : Nat} (hz : z.next = []) (hg : B ≤ g) (hb : w1.heap[g]? = some (.cells (zCells z vg (.slice none 0 0)) 41 (0, 0))) (hr : Kd.R (Kd.int .u8) 5 w1 B (fun _ => True) vg z.cs) (hb2 : Below w1.heap.size w1 w2) (hv : Kd.R ptK 34 w2 B (fun _ => True) v [g]) : SB w2 B v [⟨g, vg, .slice none 0 0, z⟩] where
 row := hv
 ok := fun m hm => by
  rw [List.mem_singleton.1 hm]
  exact okZ.below ⟨hg, hb, hr, by rw [hz]; exact Kd.R_nil _ _ _ _ _⟩ hb2
 nodup := by simp
 apart := List.pairwise_singleton _ _
theorem SB.more {w10 w1 : World} {B n : Nat} {v v1 vg : Value} {M : List Zm} {z : Zs} (h : SB w10 B v M) (hB : B ≤ w10.heap.size) (hz : z.next = []) (hgr : Kd.R (Kd.int .u8) 5 w10 B (fun _ => True) vg z.cs) (hg : ((w10.drewN n).alloc (.cells (zCells z vg (.slice none 0 0)) 41)).grownBy w1 v.ownBlock)
  (hr : Kd.R ptK 34 w1 B (fun _ => True) v1 (M.map Zm.g ++ [w10.heap.size])) : SB w1 B v1 (M ++ [⟨w10.heap.size, vg, .slice none 0 0, z⟩]) := by
 have hb : Below w10.heap.size w10 ((w10.drewN n).alloc (.cells (zCells z vg (.slice none 0 0)) 41)) := below_alloc (pw_below_drewN (Below.refl _ w10) n) _
 refine (h.below hb).add ⟨hB, World.alloc_heap_new (w10.drewN n) _, Kd.R_below hgr hb, by rw [hz]; exact Kd.R_nil _ _ _ _ _⟩ (fun x hx => ?_) rfl hg (by rw [List.map_append]; exact hr)
 have := blk_lt (h.ok x hx).blk
 show x.g ≠ w10.heap.size
 omega
theorem alloc_then {w w1 : World} {o : Obj} (hb : Below (w.alloc o).heap.size (w.alloc o) w1) : Below w.heap.size w w1 ∧ w1.heap[w.heap.size]? = some o := by
 have h0 := below_alloc (Below.refl _ w) o;have h1 := World.alloc_heap_new w o
 exact ⟨below_then h0 h0.size hb, (hb.block _ (blk_lt h1)).trans h1⟩
theorem SB.drewn {w : World} {B : Nat} {v : Value} {M : List Zm} (h : SB w B v M) (n : Nat) : SB (w.drewN n) B v M := h.below (pw_below_drewN (Below.refl _ _) n)
theorem SB.word {w : World} {B : Nat} {v : Value} {M : List Zm} (h : SB w B v M) {j : Nat} {m : Zm} (hm : M[j]? = some m) (x : Int) : SB (w.setCell ⟨m.g, 5, none⟩ (.int .i64 x)) B v (M.set j { m with z := { m.z with words := x } }) :=
 h.put hm 5 _ rfl rfl ⟨(h.at hm).base, blk_put (h.at hm).blk 5 _ rfl, Kd.R_set (h.at hm).grid (h.at hm).blk (by decide) 5 _, Kd.R_set (h.at hm).next (h.at hm).blk (by decide) 5 _⟩
theorem map_z_set (M : List Zm) (j : Nat) (m : Zm) : (M.set j m).map Zm.z = (M.map Zm.z).set j m.z := List.map_set ..
theorem touch_yes {M : List Zm} {i j : Nat} {m mj mi : Zm} (hj : M[j]? = some mj) (hi : M[i]? = some m) (he : mj.z.far = wrap64 (m.z.far + 1)) {M2 : List Zm} (h2 : M2 = M.set j { mj with z := { mj.z with words := wrap64 (mj.z.words + m.z.words) } }) (hi2 : M2[i]? = some mi) (v : Value) : zTouch (M.map Zm.z) i j = (M2.set i { mi with vn := v, z := { mi.z with next := mi.z.next ++ [(j : Int)] } }).map Zm.z := by
 unfold zTouch zWords zNext
 rw [zAt_map hj, zAt_map hi, if_pos he, map_z_set, ← map_z_set M j { mj with z := { mj.z with words := wrap64 (mj.z.words + m.z.words) } }, ← h2, zAt_map hi2]
theorem touch_no {M : List Zm} {i j : Nat} {m mj : Zm} (hj : M[j]? = some mj) (hi : M[i]? = some m) (he : ¬ mj.z.far = wrap64 (m.z.far + 1)) (v : Value) : zTouch (M.map Zm.z) i j = (M.set i { m with vn := v, z := { m.z with next := m.z.next ++ [(j : Int)] } }).map Zm.z := by
 unfold zTouch zWords zNext
 rw [zAt_map hj, zAt_map hi, if_neg he, map_z_set, zAt_map hi]
theorem zPlace_lt : ∀ (L : List Zs) (t : ByteArray) (k : Nat), 0 ≤ zPlace L t k → zPlace L t k < ((k + L.length : Nat) : Int)
 | [], t, k, h => by
  rw [zPlace] at h
  omega
 | z :: L, t, k, h => by
  rw [zPlace] at h ⊢
  rw [List.length_cons]
  by_cases e : z.text.toList = t.toList
  ·rw [if_pos e]
   omega
  ·rw [if_neg e] at h ⊢
   have := zPlace_lt L t (k + 1) h
   omega
theorem set_at {M : List Zm} {i j : Nat} {m mj mj' : Zm} (hi : M[i]? = some m) (hj : M[j]? = some mj) (hg : mj'.g = mj.g) (hn : mj'.z.next = mj.z.next) : ∃ mi, (M.set j mj')[i]? = some mi ∧ mi.g = m.g ∧ mi.z.next = m.z.next := by
 rw [List.getElem?_set]
 by_cases e : j = i
 ·subst e
  rw [if_pos rfl, if_pos (List.getElem?_eq_some_iff.1 hj).1]
  rw [hi] at hj
  cases hj
  exact ⟨mj', rfl, hg, hn⟩
 ·rw [if_neg e]
  exact ⟨m, hi, rfl, rfl⟩
set_option maxHeartbeats 16000000 in
set_option maxRecDepth 100000 in
theorem spec_reAll.calls (k : Nat) (a0 : ByteArray) (r1 : List Zs) (r2 : Bool) (w : World) (h : spec_reAll.f k a0 = some (r1, r2)) :
  Calls Tryz.prog 32 #[.string a0] w fun e w' => ∃ (A : Option Addr) (c : Nat), e = .returned (.tuple #[.slice A r1.length c, .bool r2]) ∧ r1.length ≤ c ∧ r1.length ≤ 300 ∧ StC w' A r1 ∧ Below w.heap.size w w' := by
 unfold spec_reAll.f at h;obtain ⟨⟨gw, gh, gc, gok⟩, ht, h⟩ := Option.bind_eq_some_iff.1 h;have HT := Aside0.mk ht;clear ht
 cases gok with
 | false =>
  rw [if_neg Bool.false_ne_true] at h
  simp only [Option.some.injEq, Prod.mk.injEq] at h
  obtain ⟨rfl, rfl⟩ := h
  go_enter Tryz.func32, Tryz.ntmps32
  go_wp2_with (first
   | (go_at_call 30; refine (spec_tyRead.calls k a0 gw gh gc false _ HT.out).mono ?_; rintro e w1 ⟨v1, rfl, ho1, hb1⟩; (have HB1 := Aside0.mk hb1); (obtain ⟨A1, c1, e1⟩ := Kd.R_slice ho1); subst e1; clear ho1 hb1)
   | ((with_reducible refine gate_dst (N := 4) rfl ?_); refine box_event ?hg (N := 4) ?hd (cs := #[.int .i64 0, .int .i64 0, .slice none 0 0]) (t := 38) ?hr ?_; (case hd => rfl); (case hg => rfl); (case hr => first | (go_simp; done) | (go_simp; rfl)); intro go hg w5 hbox hb; (have HB5 := Aside0.mk (below_then HB1.out HB1.out.size hb)); (have HGE := Aside0.mk (show w.heap.size ≤ go by rw [hg]; exact HB1.out.size)); (have f0 := blk_frozen hbox 0); (have f1 := blk_frozen hbox 1); (have f2 := blk_frozen hbox 2); (have y0 := (blk_cell hbox 0).trans rfl); (have y1 := (blk_cell hbox 1).trans rfl); (have y2 := (blk_cell hbox 2).trans rfl); clear hbox hb hg))
  go_ret2
  exact ⟨none, 0, rfl, Nat.le_refl _, Nat.zero_le _, ⟨fun i z hz => by simp at hz⟩, below_set (below_set (below_set HB5.out HGE.out) HGE.out) HGE.out⟩
 | true =>
  rw [if_pos rfl] at h
  have HA0 := Aside0.mk h;clear h
  go_enter Tryz.func32, Tryz.ntmps32
  go_wp2_with (first
   | (go_at_call 30; refine (spec_tyRead.calls k a0 gw gh gc true _ HT.out).mono ?_; rintro e w1 ⟨v1, rfl, ho1, hb1⟩; (have HB1 := Aside0.mk hb1); (obtain ⟨A1, c1, e1⟩ := Kd.R_slice ho1); subst e1; (have HO1 := Aside0.mk ho1); clear ho1 hb1)
   | ((with_reducible refine gate_dst (N := 4) rfl ?_); refine box_event ?hg (N := 4) ?hd (cs := #[.int .i64 0, .int .i64 0, .slice none 0 0]) (t := 38) ?hr ?_; (case hd => rfl); (case hg => rfl); (case hr => first | (go_simp; done) | (go_simp; rfl)); intro go hg w5 hbox hb; (have HB5 := Aside0.mk (below_then HB1.out HB1.out.size hb)); (have HGE := Aside0.mk (show w.heap.size ≤ go by rw [hg]; exact HB1.out.size)); (have HO5 := Aside0.mk (Kd.R_below HO1.out hb)); (have HU := Aside0.mk hbox); (have f0 := blk_frozen HU.out 0); (have f1 := blk_frozen HU.out 1); (have f2 := blk_frozen HU.out 2); (have y0 := (blk_cell HU.out 0).trans rfl); (have y1 := (blk_cell HU.out 1).trans rfl); (have y2 := (blk_cell HU.out 2).trans rfl); clear hbox hb hg HO1)
   | ((with_reducible refine gate_store (t := 38) (p := 4) rfl ?_); refine store_event (t := 38) (p := 4) (v := ?vo) (w1 := (((w5.setCell ⟨go, 0, none⟩ (.int .i64 gw)).setCell ⟨go, 1, none⟩ (.int .i64 gh)).setCell ⟨go, 2, none⟩ (.slice A1 gc.length c1))) ?hg ?ho ?hn ?hr ?_; (case ho => rfl); (case hg => rfl); (case hn => rfl); (case hr => first | (go_simp; done) | (go_simp; rfl)); intro w6 hw; (have HB6 := Aside0.mk (show Below w.heap.size w w6 by rw [hw]; exact below_set (below_set (below_set HB5.out HGE.out) HGE.out) HGE.out)); (have HU6 := Aside0.mk (show w6.heap[go]? = some (.cells #[.int .i64 gw, .int .i64 gh, .slice A1 gc.length c1] 38 (0, 0)) by rw [hw]; refine blk_put (cs := #[.int .i64 gw, .int .i64 gh, .slice none 0 0]) ?_ 2 _ rfl; refine blk_put (cs := #[.int .i64 gw, .int .i64 0, .slice none 0 0]) ?_ 1 _ rfl; refine blk_put (cs := #[.int .i64 0, .int .i64 0, .slice none 0 0]) ?_ 0 _ rfl; exact HU.out)); (have HO6 := Aside0.mk (show Kd.R (Kd.int .u8) 5 w6 w.heap.size (fun _ => True) (.slice A1 gc.length c1) gc by rw [hw]; exact R_all (Kd.R_far (p := ⟨go, 2, none⟩) (Kd.R_far (p := ⟨go, 1, none⟩) (Kd.R_far (p := ⟨go, 0, none⟩) (Kd.R_types HO5.out HU.out (by decide)) (fun _ hk => hk.2) (.int .i64 gw)) (fun _ hk => hk.2) (.int .i64 gh)) (fun _ hk => hk.2) (.slice A1 gc.length c1)))); clear hw HB5 HU HO5 y0 y1 y2 f0 f1 f2; (have y0 := (blk_cell HU6.out 0).trans rfl); (have y1 := (blk_cell HU6.out 1).trans rfl); (have y2 := (blk_cell HU6.out 2).trans rfl))
   | ((with_reducible refine gate_dst (N := 23) rfl ?_); refine box_event ?hg (N := 23) ?hd (cs := zCells ⟨gw, gh, gc, a0, 0, 1, -1, 0, []⟩ (.slice A1 gc.length c1) (.slice none 0 0)) (t := 41) ?hr ?_; (case hd => rfl); (case hg => rfl); (case hr => first | (go_simp; done) | (go_simp; rfl)); intro gs hg w7 hbox hb; (have HB7 := Aside0.mk (below_then HB6.out HB6.out.size hb)); (have HGS := Aside0.mk (show w.heap.size ≤ gs by rw [hg]; exact HB6.out.size)); (have HO7 := Aside0.mk (Kd.R_below HO6.out hb)); (have HS7 := Aside0.mk hbox); clear hbox hb hg HO6 HU6 HB6 y0 y1 y2)
   | ((with_reducible refine gate_dst (N := 24) rfl ?_); refine R_litG ptK w.heap.size 34 ?hg (N := 24) ?hd (xs := [gs]) (inner := [.pointer (some ⟨gs, 0, none⟩)]) (ok := fun _ => True) (okp := fun _ => True) ?hr ?hp (fun _ hk => hk) trivial HB7.out HB7.out.size (by simp) ?_; (case hd => rfl); (case hg => first | rfl | decide | (simp [Region.wanted, yielded]; done) | (go_simp; done)); (case hr => first | (go_simp; done) | (go_simp; rfl)); (case hp => exact (Reps.one (show Kd.M ptK _ _ _ gs [.pointer (some ⟨gs, 0, none⟩)] from rfl) (Reps.none _ _))); intro v8 w8 ho8 hb8 hg8 hn8))
  have HS8 := Aside0.mk (SB.made (z := ⟨gw, gh, gc, a0, 0, 1, -1, 0, []⟩) rfl HGS.out HS7.out HO7.out (below_none hg8) (R_all ho8));have HB8 := Aside0.mk hb8;clear ho8 hb8 hg8 hn8 HS7 HO7 HB7
  go_loopg [6, 7] 301 (fun gg v6 v7 wr => ∃ (i : Nat) (vv : Value) (M : List Zm), v6 = vv ∧ v7 = .int .i64 i ∧ Aside0 ((i ≤ M.length ∧ M.length ≤ 300 ∧ 301 - i ≤ gg) ∧ reA k (301 - i) i (M.map Zm.z) = some (r1, r2)) ∧ Aside0 (SB wr w.heap.size vv M) ∧ Aside0 (Below w.heap.size w wr))
  case atStart => exact ⟨0, v8, [⟨gs, .slice A1 gc.length c1, .slice none 0 0, ⟨gw, gh, gc, a0, 0, 1, -1, 0, []⟩⟩], rfl, by first | rfl | (simp; done), ⟨⟨Nat.zero_le _, by simp, Nat.le_refl _⟩, HA0.out⟩, HS8, HB8⟩
  case round =>
   clear HS8 HB8 HA0;obtain ⟨i, vv, M, rfl, rfl, HA, HS, HB⟩ := hrel;obtain ⟨AL, cL, eL, hcL, hstL, hptL⟩ := HS.out.read
   by_cases hli : i < M.length
   ·have c2 : decide ((i : Int) < (M.length : Int)) = true := decide_eq_true (by omega)
    have p1 : (0 ≤ (i : Int)) = True := eq_true (by omega);have p2 : ((i : Int) < (M.length : Int)) = True := eq_true (by omega);have hsp := HA.out.2
    rw [show 301 - i = (300 - i) + 1 by have := HA.out.1; omega, reA, if_pos (by rw [List.length_map]; exact hli)] at hsp
    obtain ⟨m, hm⟩ : ∃ m, M[i]? = some m := ⟨_, List.getElem?_eq_getElem hli⟩;obtain ⟨ad, e1, h2⟩ := hptL i m hm
    cases e1
    have HSP := Aside0.mk hsp;have HGK := Aside0.mk (show i < M.length ∧ M.length ≤ 300 ∧ 301 - i ≤ gk from ⟨hli, HA.out.1.2.1, HA.out.1.2.2⟩);subst eL;clear hsp HA hli hstL hptL;have HGM := Aside0.mk (show ∃ x, M[i]? = some x ∧ x.g = m.g from ⟨m, hm, rfl⟩);generalize m.g = gi at h2 HGM;clear hm
    go_wp2_with fail
    go_loopg [6, 9] 4 (fun gg v6 v9 wr => ∃ (d : Nat) (vv : Value) (M : List Zm), v6 = vv ∧ v9 = .int .i64 d ∧ Aside0 (((d ≤ 4 ∧ 4 - d ≤ gg) ∧ (i < M.length ∧ M.length ≤ 300) ∧ ∃ x, M[i]? = some x ∧ x.g = gi) ∧ reS k (fun L => reA k (300 - i) (i + 1) L) i (4 - d) d (M.map Zm.z) = some (r1, r2)) ∧ Aside0 (SB wr w.heap.size vv M) ∧ Aside0 (Below w.heap.size w wr))
    case atStart => exact ⟨0, _, M, rfl, by first | rfl | (simp; done), ⟨⟨⟨Nat.zero_le _, Nat.le_refl _⟩, ⟨HGK.out.1, HGK.out.2.1⟩, HGM.out⟩, HSP.out⟩, HS, HB⟩
    case round =>
     clear HS HB HSP HGM h2 c2 p1 p2;obtain ⟨d, vv, M, rfl, rfl, HA, HS, HB⟩ := hrel
     by_cases hd : d < 4
     ·have c3 : decide ((d : Int) < 4) = true := decide_eq_true (by omega)
      obtain ⟨⟨⟨_, hgk⟩, ⟨hil, hml⟩, m, hm, rfl⟩, hsp⟩ := HA.out
      rw [show 4 - d = (3 - d) + 1 by omega, reS, zAt_map hm] at hsp
      split at hsp
      case isFalse => cases hsp
      rename_i hnl
      have HNL0 := Aside0.mk hnl;clear hnl;obtain ⟨⟨ow, oh, oc⟩, htl, hsp⟩ := Option.bind_eq_some_iff.1 hsp;obtain ⟨tx, htx, hsp⟩ := Option.bind_eq_some_iff.1 hsp;have HTL := Aside0.mk htl;have HTX := Aside0.mk htx;have HSP := Aside0.mk hsp;have HM := Aside0.mk hm;have HGK2 := Aside0.mk (show (4 - d ≤ gk ∧ d < 4) ∧ i < M.length ∧ M.length ≤ 300 from ⟨⟨hgk, hd⟩, hil, hml⟩);obtain ⟨Ag, cg, eg, hcg, hCg⟩ := Kd.R_reads (HS.out.at hm).grid;have HCG := Aside0.mk (show oc.length ≤ oc.length ∧ m.z.cs.length ≤ cg ∧ Kd.C (Kd.int .u8) wr Ag m.z.cs.length m.z.cs from ⟨Nat.le_refl _, hcg, hCg⟩);have y0 : wr.cell? ⟨m.g, 0, none⟩ = some (.int .i64 m.z.w) := (blk_cell (HS.out.at hm).blk 0).trans rfl;have y1 : wr.cell? ⟨m.g, 1, none⟩ = some (.int .i64 m.z.h) := (blk_cell (HS.out.at hm).blk 1).trans rfl
      have y2 : wr.cell? ⟨m.g, 2, none⟩ = some (.slice Ag m.z.cs.length cg) := by rw [← eg]; exact (blk_cell (HS.out.at hm).blk 2).trans rfl
      clear htl htx hsp hm HA hgk hil hml hcg hCg eg hd
      by_cases hneg : zPlace (M.map Zm.z) tx 0 < 0
      ·have c4 : decide (zPlace (M.map Zm.z) tx 0 < 0) = true := decide_eq_true hneg
       have hsp := HSP.out
       rw [if_pos hneg, List.length_map] at hsp
       by_cases h300 : M.length = 300
       ·have c5 : ((M.length : Int) == 300) = true := beq_iff_eq.mpr (by omega)
        rw [if_pos h300] at hsp
        simp only [Option.some.injEq, Prod.mk.injEq] at hsp
        obtain ⟨rfl, rfl⟩ := hsp;clear hneg h300 HSP
        go_wp2_with (first
         | (go_at_call 48; refine (spec_tiTilt.calls k m.z.w m.z.h Ag cg m.z.cs d ow oh oc _ HCG.out.2.2 HCG.out.2.1 HTL.out).mono ?_; rintro e w9 ⟨v9, rfl, ho9, hb9⟩; (have HS9 := Aside0.mk (HS.out.below hb9)); (have HB9 := Aside0.mk (below_then HB.out HB.out.size hb9)); (obtain ⟨A9, c9, e9⟩ := Kd.R_slice ho9); subst e9; (have HO9 := Aside0.mk (Kd.R_lower ho9 HB.out.size)); clear ho9 hb9 HS HB HCG y0 y1 y2)
         | (go_at_call 49; refine (spec_tyText.calls k ow oh A9 c9 oc tx _ (Kd.C_below (Kd.R_reads' HO9.out).2.2 (below_alloc (Below.refl _ _) _)) (Kd.R_reads' HO9.out).2.1 HTX.out).mono ?_; rintro e w10 ⟨rfl, hb10⟩; (obtain ⟨hb10, hk10⟩ := alloc_then hb10); (have HU10 := Aside0.mk hk10); (have HGB := Aside0.mk HB9.out.size); clear hk10; (have HS10 := Aside0.mk (HS9.out.below hb10)); (have HB10 := Aside0.mk (below_then HB9.out HB9.out.size hb10)); (have HO10 := Aside0.mk (Kd.R_below HO9.out hb10)); clear hb10 HS9 HB9 HO9; (generalize w9.heap.size = gt at HU10 HGB ⊢); (obtain ⟨A10, c10, e10, hc10, hst10, _⟩ := HS10.out.read); subst e10; (have HST := Aside0.mk hst10); (have HCC := Aside0.mk hc10); clear hst10 hc10)
         | (go_at_call 39; refine (spec_rePlace.calls A10 M.length c10 (M.map Zm.z) tx _ (by rw [List.length_map]) HST.out (by rw [List.length_map]; have := HGK2.out; omega) HCC.out).mono ?_; rintro e w11 ⟨rfl, ⟨m11, rfl⟩⟩))
        go_ret2
        exact ⟨none, 0, rfl, Nat.le_refl _, Nat.zero_le _, ⟨fun i z hz => by simp at hz⟩, pw_below_drewN HB10.out m11⟩
       ·have c5 : ((M.length : Int) == 300) = false := beq_eq_false_iff_ne.mpr (by omega)
        rw [if_neg h300] at hsp
        have HL3 := Aside0.mk h300;have HNX := Aside0.mk hsp;clear hneg h300 HSP hsp
        go_wp2_with (first
         | (go_at_call 48; refine (spec_tiTilt.calls k m.z.w m.z.h Ag cg m.z.cs d ow oh oc _ HCG.out.2.2 HCG.out.2.1 HTL.out).mono ?_; rintro e w9 ⟨v9, rfl, ho9, hb9⟩; (have HS9 := Aside0.mk (HS.out.below hb9)); (have HB9 := Aside0.mk (below_then HB.out HB.out.size hb9)); (obtain ⟨A9, c9, e9⟩ := Kd.R_slice ho9); subst e9; (have HO9 := Aside0.mk (Kd.R_lower ho9 HB.out.size)); clear ho9 hb9 HS HB HCG y0 y1 y2)
         | (go_at_call 49; refine (spec_tyText.calls k ow oh A9 c9 oc tx _ (Kd.C_below (Kd.R_reads' HO9.out).2.2 (below_alloc (Below.refl _ _) _)) (Kd.R_reads' HO9.out).2.1 HTX.out).mono ?_; rintro e w10 ⟨rfl, hb10⟩; (obtain ⟨hb10, hk10⟩ := alloc_then hb10); (have HU10 := Aside0.mk hk10); (have HGB := Aside0.mk HB9.out.size); clear hk10; (have HS10 := Aside0.mk (HS9.out.below hb10)); (have HB10 := Aside0.mk (below_then HB9.out HB9.out.size hb10)); (have HO10 := Aside0.mk (Kd.R_below HO9.out hb10)); clear hb10 HS9 HB9 HO9; (generalize w9.heap.size = gt at HU10 HGB ⊢); (obtain ⟨A10, c10, e10, hc10, hst10, _⟩ := HS10.out.read); subst e10; (have HST := Aside0.mk hst10); (have HCC := Aside0.mk hc10); clear hst10 hc10)
         | (go_at_call 39; refine (spec_rePlace.calls A10 M.length c10 (M.map Zm.z) tx _ (by rw [List.length_map]) HST.out (by rw [List.length_map]; have := HGK2.out; omega) HCC.out).mono ?_; rintro e w11 ⟨rfl, ⟨m11, rfl⟩⟩))
        obtain ⟨Agx, cgx, egx, hcgx, hCgx⟩ := Kd.R_reads (HS10.out.at HM.out).grid;have z0 := (blk_cell HU10.out 0).trans rfl;have z1 := (blk_cell HU10.out 1).trans rfl;have z2 := (blk_cell HU10.out 2).trans rfl;have x4 : w10.cell? ⟨m.g, 4, none⟩ = some (.int .i64 m.z.far) := (blk_cell (HS10.out.at HM.out).blk 4).trans rfl;clear hcgx hCgx egx
        go_region_law (apply Kd.R_append_step (d := ptK) (w0 := w) (base := w.heap.size) (s := .tmp 57) (x := .tmp 69) (t := 31) (e := 34) (z := .pointer none) (bytes := 8) (v := .slice A10 M.length c10) (xs := M.map Zm.g) (p := w10.heap.size) (cs := [.pointer (some ⟨w10.heap.size, 0, none⟩)]) (ok := fun _ => True) (okp := fun _ => False); (case hw => rfl); (case ho => rfl); (case ht => exact Tryz.underlying31); (case hinfo => kernel_rfl); (case hz => rfl); (case hs0 => decide); (case hb0 => decide); (case hs => rfl); (case hx => exact (congrArg (fun q => Value.slice (some ⟨q, 0, none⟩) 1 1) (World.size_alloc (w10.drewN _) _).symm)); (case hp => rfl); (case hokp => exact fun _ hk => hk.elim); (case hfresh => exact fun _ _ => trivial); (case HO => exact Kd.R_below HS10.out.row (below_alloc (pw_below_drewN (Below.refl _ w10) _) _)); (case HB => exact below_alloc (pw_below_drewN HB10.out _) _); (case hbase => exact (below_alloc (pw_below_drewN HB10.out _) _).size); (case hl => rw [List.length_map]; have := HGK2.out; omega); intro v12 w12 hr12 hb12 hg12 _)
        all_goals
         rw [i64_w] at hg12
         have HS12 := Aside0.mk (SB.more (z := zNew (ow, oh, oc) tx m.z.far i d) HS10.out HB10.out.size rfl HO10.out hg12 hr12);have HB12 := Aside0.mk hb12;clear hr12 hb12 hg12 z0 z1 z2 x4 HU10 HO10 HS10 HB10 HST HCC
         have hmi : (M ++ [(⟨w10.heap.size, .slice A9 oc.length c9, .slice none 0 0, zNew (ow, oh, oc) tx m.z.far i d⟩ : Zm)])[i]? = some m := by rw [List.getElem?_append_left HGK2.out.2.1]; exact HM.out
         have hmj : (M ++ [(⟨w10.heap.size, .slice A9 oc.length c9, .slice none 0 0, zNew (ow, oh, oc) tx m.z.far i d⟩ : Zm)])[M.length]? = some ⟨w10.heap.size, .slice A9 oc.length c9, .slice none 0 0, zNew (ow, oh, oc) tx m.z.far i d⟩ := by simp
         have HMI := Aside0.mk hmi;have HMJ := Aside0.mk hmj;have HLT := Aside0.mk (show i < (M ++ [(⟨w10.heap.size, .slice A9 oc.length c9, .slice none 0 0, zNew (ow, oh, oc) tx m.z.far i d⟩ : Zm)]).length ∧ (M ++ [(⟨w10.heap.size, .slice A9 oc.length c9, .slice none 0 0, zNew (ow, oh, oc) tx m.z.far i d⟩ : Zm)]).length ≤ 300 by rw [List.length_append, List.length_singleton]; have := HGK2.out; have := HL3.out; omega);have HNY := Aside0.mk (show reS k (fun L => reA k (300 - i) (i + 1) L) i (3 - d) (d + 1) (zTouch ((M ++ [(⟨w10.heap.size, .slice A9 oc.length c9, .slice none 0 0, zNew (ow, oh, oc) tx m.z.far i d⟩ : Zm)]).map Zm.z) i M.length) = some (r1, r2) by rw [List.map_append]; exact HNX.out);clear hmi hmj HNX;generalize (M ++ [(⟨w10.heap.size, .slice A9 oc.length c9, .slice none 0 0, zNew (ow, oh, oc) tx m.z.far i d⟩ : Zm)]) = Mt at HS12 HMI HMJ HLT HNY;generalize (⟨w10.heap.size, .slice A9 oc.length c9, .slice none 0 0, zNew (ow, oh, oc) tx m.z.far i d⟩ : Zm) = mj at HMJ;have HJ := Aside0.mk (show M.length ≤ 300 ∧ M.length < Mt.length from ⟨HGK2.out.2.2, (List.getElem?_eq_some_iff.1 HMJ.out).1⟩);generalize M.length = j at HMJ HNY HJ ⊢;obtain ⟨A12, c12, e12, hc12, _, hp12⟩ := HS12.out.read;have HSL := Aside0.mk (show v12 = .slice A12 Mt.length c12 from e12);subst e12;obtain ⟨ad12, e12, x6⟩ := hp12 j mj HMJ.out
         cases e12
         have q1 : (0 ≤ (j : Int)) = True := eq_true (by omega);have q2 : ((j : Int) < (Mt.length : Int)) = True := eq_true (by have := HJ.out; omega);have x7 : w12.cell? ⟨mj.g, 4, none⟩ = some (.int .i64 mj.z.far) := (blk_cell (HS12.out.at HMJ.out).blk 4).trans rfl;have x8 : w12.cell? ⟨m.g, 4, none⟩ = some (.int .i64 m.z.far) := (blk_cell (HS12.out.at HMI.out).blk 4).trans rfl;have x9 : w12.cell? ⟨mj.g, 5, none⟩ = some (.int .i64 mj.z.words) := (blk_cell (HS12.out.at HMJ.out).blk 5).trans rfl;have x10 : w12.cell? ⟨m.g, 5, none⟩ = some (.int .i64 m.z.words) := (blk_cell (HS12.out.at HMI.out).blk 5).trans rfl;have x11 : w12.frozen? ⟨mj.g, 5, none⟩ = false := blk_frozen (HS12.out.at HMJ.out).blk 5;clear hp12 hc12 HSL
         by_cases hfar : mj.z.far = wrap64 (m.z.far + 1)
         ·have c6 : (mj.z.far == wrap64 (m.z.far + 1)) = true := beq_iff_eq.mpr hfar
          have c7 : (mj.z.far == IntKind.i64.wrap (m.z.far + 1)) = true := by rw [i64_w]; exact c6
          have HFAR := Aside0.mk hfar;clear hfar
          go_wp2_with fail
          go_quiet (fail)
          go_wp2_with fail
          go_region
          have HS13 := Aside0.mk ((HS12.out.drewn (nq + 1)).word HMJ.out (wrap64 (mj.z.words + m.z.words)));have HB13 := Aside0.mk (show Below w.heap.size w ((w12.drewN (nq + 1)).setCell ⟨mj.g, 5, none⟩ (.int .i64 (wrap64 (mj.z.words + m.z.words)))) from below_set (pw_below_drewN HB12.out (nq + 1)) (HS12.out.at HMJ.out).base);have HMG := Aside0.mk (show w.heap.size ≤ m.g from (HS12.out.at HMI.out).base);obtain ⟨mi, hmi2, hge, hxn⟩ := set_at (mj' := { mj with z := { mj.z with words := wrap64 (mj.z.words + m.z.words) } }) HMI.out HMJ.out rfl rfl;have HXN := Aside0.mk hxn;have HNZ := Aside0.mk (show ∀ v, reS k (fun L => reA k (300 - i) (i + 1) L) i (3 - d) (d + 1) (((Mt.set j { mj with z := { mj.z with words := wrap64 (mj.z.words + m.z.words) } }).set i { mi with vn := v, z := { mi.z with next := mi.z.next ++ [(j : Int)] } }).map Zm.z) = some (r1, r2) from fun v => by rw [← touch_yes HMJ.out HMI.out HFAR.out rfl hmi2 v]; exact HNY.out);have HLT2 := Aside0.mk (show i < (Mt.set j { mj with z := { mj.z with words := wrap64 (mj.z.words + m.z.words) } }).length ∧ (Mt.set j { mj with z := { mj.z with words := wrap64 (mj.z.words + m.z.words) } }).length ≤ 300 by rw [List.length_set]; exact HLT.out);have HMI2 := Aside0.mk hmi2;have HGE := Aside0.mk hge;clear hmi2 hge hxn HNY HS12 HB12 x6 x7 x8 x9 x10 x11 HFAR;generalize (w12.drewN (nq + 1)).setCell ⟨mj.g, 5, none⟩ (.int .i64 (wrap64 (mj.z.words + m.z.words))) = w13 at HS13 HB13 ⊢;generalize (Mt.set j { mj with z := { mj.z with words := wrap64 (mj.z.words + m.z.words) } }) = M2 at HS13 HMI2 HNZ HLT2;have HK := Aside0.mk (HS13.out.at HMI2.out);obtain ⟨An, cn, en, hcn, _⟩ := Kd.R_reads HK.out.next;have HR13 := Aside0.mk (show Kd.R (Kd.int .i64) 3 w13 w.heap.size (fun _ => True) (.slice An mi.z.next.length cn) mi.z.next by rw [← en]; exact HK.out.next);have HEN := Aside0.mk en;have HBK := Aside0.mk (show w13.heap[m.g]? = some (.cells (zCells mi.z mi.vg (.slice An mi.z.next.length cn)) 41 (0, 0)) by rw [← en, ← HGE.out]; exact HK.out.blk);have HNL := Aside0.mk (show mi.z.next.length ≤ 1000 by rw [HXN.out]; exact HNL0.out);clear hcn en HK;have x12 : w13.cell? ⟨m.g, 8, none⟩ = some (.slice An mi.z.next.length cn) := (blk_cell HBK.out 8).trans rfl
          go_wp2_with (first
           | ((with_reducible refine gate_dst (N := 105) rfl ?_); refine Kd.R_append (Kd.int .i64) (w0 := w) w.heap.size rfl (.tmp 102) (.tmp 104) 39 3 (.int .i64 0) 8 rfl Tryz.underlying39 info3 rfl (by decide) (by omega) (.slice An mi.z.next.length cn) mi.z.next (j : Int) [.int .i64 (j : Int)] (fun _ => True) (fun _ => False) ?h1 ?h2 ?aP (fun _ hk => hk.elim) ?aF ?aO ?aB ?aS ?aL ?_; (case h1 => rfl); (case h2 => rfl); (case aP => exact rfl); (case aB => exact HB13.out); (case aF => exact (fun _ _ => trivial)); (case aO => exact HR13.out); (case aS => exact HB13.out.size); (case aL => have := HNL.out; omega); intro v14 w14 ho14 hb14 hg14 hat14; (obtain ⟨A14, c14, e14⟩ := Kd.R_slice ho14); (generalize hlen14 : (mi.z.next ++ [(j : Int)]).length = n14 at e14); subst e14; (have HB14 := Aside0.mk hb14); (have HBK14 := Aside0.mk (blk_grown HBK.out hg14 (Kd.R_ne HR13.out HBK.out (by decide)))); (have HS15 := Aside0.mk (HS13.out.grow HMI2.out (v1 := .slice A14 n14 c14) (ys := mi.z.next ++ [(j : Int)]) (by rw [HEN.out]; exact hg14) (by rw [HEN.out]; exact hat14) ho14)); clear ho14 hb14 hg14 hat14 x12 hlen14; (have x13 : w14.cell? ⟨m.g, 8, none⟩ = some (.slice An mi.z.next.length cn) := (blk_cell HBK14.out 8).trans rfl); (have f13 := blk_frozen HBK14.out 8)))
          have HS16 := Aside0.mk (show SB (w14.setCell ⟨m.g, 8, none⟩ (.slice A14 n14 c14)) w.heap.size (.slice (some ad12) Mt.length c12) (M2.set i { mi with vn := .slice A14 n14 c14, z := { mi.z with next := mi.z.next ++ [(j : Int)] } }) by rw [← HGE.out]; exact HS15.out);have HB15 := Aside0.mk (show Below w.heap.size w (w14.setCell ⟨m.g, 8, none⟩ (.slice A14 n14 c14)) from below_set HB14.out (HMG.out))
          go_roundg (4 - (d + 1))
          case measure => have := HGK2.out; omega
          case rel => exact ⟨d + 1, _, M2.set i { mi with vn := .slice A14 n14 c14, z := { mi.z with next := mi.z.next ++ [(j : Int)] } }, rfl, by first | rfl | rw [wrap64_nat d (by have := HGK2.out; omega)] | simp, ⟨⟨⟨by have := HGK2.out; omega, Nat.le_refl _⟩, by rw [List.length_set]; exact HLT2.out, { mi with vn := .slice A14 n14 c14, z := { mi.z with next := mi.z.next ++ [(j : Int)] } }, by rw [List.getElem?_set, if_pos rfl, if_pos HLT2.out.1], HGE.out⟩, by rw [show 4 - (d + 1) = 3 - d by omega]; exact HNZ.out _⟩, HS16, HB15⟩
         ·have c6 : (mj.z.far == wrap64 (m.z.far + 1)) = false := beq_eq_false_iff_ne.mpr hfar
          have c7 : (mj.z.far == IntKind.i64.wrap (m.z.far + 1)) = false := by rw [i64_w]; exact c6
          have HNZ := Aside0.mk (show ∀ v, reS k (fun L => reA k (300 - i) (i + 1) L) i (3 - d) (d + 1) ((Mt.set i { m with vn := v, z := { m.z with next := m.z.next ++ [(j : Int)] } }).map Zm.z) = some (r1, r2) from fun v => by rw [← touch_no HMJ.out HMI.out hfar v]; exact HNY.out);have HMG := Aside0.mk (show w.heap.size ≤ m.g from (HS12.out.at HMI.out).base);clear hfar HNY
          go_wp2_with fail
          go_quiet (fail)
          have HB13 := Aside0.mk (pw_below_drewN HB12.out nq);obtain ⟨mi, hmi⟩ : ∃ mi, mi = m := ⟨m, rfl⟩;have HGE := Aside0.mk (show mi.g = m.g by rw [hmi]);have HXN := Aside0.mk (show mi.z.next = m.z.next by rw [hmi]);obtain ⟨M2, hM2⟩ : ∃ M2, M2 = Mt := ⟨Mt, rfl⟩;have HMI2 := Aside0.mk (show M2[i]? = some mi by rw [hM2, hmi]; exact HMI.out);have HS13 := Aside0.mk (show SB (w12.drewN nq) w.heap.size (.slice (some ad12) Mt.length c12) M2 by rw [hM2]; exact HS12.out.drewn nq);have HLT2 := Aside0.mk (show i < M2.length ∧ M2.length ≤ 300 by rw [hM2]; exact HLT.out)
          rw [← hmi, ← hM2] at HNZ
          clear HS12 HB12 x6 x7 x8 x9 x10 x11 hmi hM2;generalize w12.drewN nq = w13 at HS13 HB13 ⊢;have HK := Aside0.mk (HS13.out.at HMI2.out);obtain ⟨An, cn, en, hcn, _⟩ := Kd.R_reads HK.out.next;have HR13 := Aside0.mk (show Kd.R (Kd.int .i64) 3 w13 w.heap.size (fun _ => True) (.slice An mi.z.next.length cn) mi.z.next by rw [← en]; exact HK.out.next);have HEN := Aside0.mk en;have HBK := Aside0.mk (show w13.heap[m.g]? = some (.cells (zCells mi.z mi.vg (.slice An mi.z.next.length cn)) 41 (0, 0)) by rw [← en, ← HGE.out]; exact HK.out.blk);have HNL := Aside0.mk (show mi.z.next.length ≤ 1000 by rw [HXN.out]; exact HNL0.out);clear hcn en HK;have x12 : w13.cell? ⟨m.g, 8, none⟩ = some (.slice An mi.z.next.length cn) := (blk_cell HBK.out 8).trans rfl
          go_wp2_with (first
           | ((with_reducible refine gate_dst (N := 105) rfl ?_); refine Kd.R_append (Kd.int .i64) (w0 := w) w.heap.size rfl (.tmp 102) (.tmp 104) 39 3 (.int .i64 0) 8 rfl Tryz.underlying39 info3 rfl (by decide) (by omega) (.slice An mi.z.next.length cn) mi.z.next (j : Int) [.int .i64 (j : Int)] (fun _ => True) (fun _ => False) ?h1 ?h2 ?aP (fun _ hk => hk.elim) ?aF ?aO ?aB ?aS ?aL ?_; (case h1 => rfl); (case h2 => rfl); (case aP => exact rfl); (case aB => exact HB13.out); (case aF => exact (fun _ _ => trivial)); (case aO => exact HR13.out); (case aS => exact HB13.out.size); (case aL => have := HNL.out; omega); intro v14 w14 ho14 hb14 hg14 hat14; (obtain ⟨A14, c14, e14⟩ := Kd.R_slice ho14); (generalize hlen14 : (mi.z.next ++ [(j : Int)]).length = n14 at e14); subst e14; (have HB14 := Aside0.mk hb14); (have HBK14 := Aside0.mk (blk_grown HBK.out hg14 (Kd.R_ne HR13.out HBK.out (by decide)))); (have HS15 := Aside0.mk (HS13.out.grow HMI2.out (v1 := .slice A14 n14 c14) (ys := mi.z.next ++ [(j : Int)]) (by rw [HEN.out]; exact hg14) (by rw [HEN.out]; exact hat14) ho14)); clear ho14 hb14 hg14 hat14 x12 hlen14; (have x13 : w14.cell? ⟨m.g, 8, none⟩ = some (.slice An mi.z.next.length cn) := (blk_cell HBK14.out 8).trans rfl); (have f13 := blk_frozen HBK14.out 8)))
          have HS16 := Aside0.mk (show SB (w14.setCell ⟨m.g, 8, none⟩ (.slice A14 n14 c14)) w.heap.size (.slice (some ad12) Mt.length c12) (M2.set i { mi with vn := .slice A14 n14 c14, z := { mi.z with next := mi.z.next ++ [(j : Int)] } }) by rw [← HGE.out]; exact HS15.out);have HB15 := Aside0.mk (show Below w.heap.size w (w14.setCell ⟨m.g, 8, none⟩ (.slice A14 n14 c14)) from below_set HB14.out (HMG.out))
          go_roundg (4 - (d + 1))
          case measure => have := HGK2.out; omega
          case rel => exact ⟨d + 1, _, M2.set i { mi with vn := .slice A14 n14 c14, z := { mi.z with next := mi.z.next ++ [(j : Int)] } }, rfl, by first | rfl | rw [wrap64_nat d (by have := HGK2.out; omega)] | simp, ⟨⟨⟨by have := HGK2.out; omega, Nat.le_refl _⟩, by rw [List.length_set]; exact HLT2.out, { mi with vn := .slice A14 n14 c14, z := { mi.z with next := mi.z.next ++ [(j : Int)] } }, by rw [List.getElem?_set, if_pos rfl, if_pos HLT2.out.1], HGE.out⟩, by rw [show 4 - (d + 1) = 3 - d by omega]; exact HNZ.out _⟩, HS16, HB15⟩
      ·have c4 : decide (zPlace (M.map Zm.z) tx 0 < 0) = false := decide_eq_false hneg
       obtain ⟨j, hj⟩ := Int.eq_ofNat_of_zero_le (Int.not_lt.1 hneg);have hsp := HSP.out
       rw [if_neg hneg, hj, Int.toNat_natCast] at hsp
       have hjl := zPlace_lt (M.map Zm.z) tx 0 (by omega)
       rw [List.length_map, hj] at hjl
       have HJ := Aside0.mk (show j ≤ 300 ∧ j < M.length by have := HGK2.out; omega);have HNY := Aside0.mk hsp;have HZJ := Aside0.mk hj
       rw [hj] at c4
       clear hneg HSP hsp hj hjl
       go_wp2_with (first
        | (go_at_call 48; refine (spec_tiTilt.calls k m.z.w m.z.h Ag cg m.z.cs d ow oh oc _ HCG.out.2.2 HCG.out.2.1 HTL.out).mono ?_; rintro e w9 ⟨v9, rfl, ho9, hb9⟩; (have HS9 := Aside0.mk (HS.out.below hb9)); (have HB9 := Aside0.mk (below_then HB.out HB.out.size hb9)); (obtain ⟨A9, c9, e9⟩ := Kd.R_slice ho9); subst e9; (have HO9 := Aside0.mk (Kd.R_lower ho9 HB.out.size)); clear ho9 hb9 HS HB HCG y0 y1 y2)
        | (go_at_call 49; refine (spec_tyText.calls k ow oh A9 c9 oc tx _ (Kd.C_below (Kd.R_reads' HO9.out).2.2 (below_alloc (Below.refl _ _) _)) (Kd.R_reads' HO9.out).2.1 HTX.out).mono ?_; rintro e w10 ⟨rfl, hb10⟩; (obtain ⟨hb10, hk10⟩ := alloc_then hb10); (have HU10 := Aside0.mk hk10); (have HGB := Aside0.mk HB9.out.size); clear hk10; (have HS10 := Aside0.mk (HS9.out.below hb10)); (have HB10 := Aside0.mk (below_then HB9.out HB9.out.size hb10)); (have HO10 := Aside0.mk (Kd.R_below HO9.out hb10)); clear hb10 HS9 HB9 HO9; (generalize w9.heap.size = gt at HU10 HGB ⊢); (obtain ⟨A10, c10, e10, hc10, hst10, _⟩ := HS10.out.read); subst e10; (have HST := Aside0.mk hst10); (have HCC := Aside0.mk hc10); clear hst10 hc10)
        | (go_at_call 39; refine (spec_rePlace.calls A10 M.length c10 (M.map Zm.z) tx _ (by rw [List.length_map]) HST.out (by rw [List.length_map]; have := HGK2.out; omega) HCC.out).mono ?_; rintro e w11 ⟨rfl, ⟨m11, rfl⟩⟩; rw [HZJ.out]))
       obtain ⟨mj, hmj⟩ : ∃ mj, M[j]? = some mj := ⟨_, List.getElem?_eq_getElem HJ.out.2⟩;have HMJ := Aside0.mk hmj;have HMI := HM;have HLT := Aside0.mk (show i < M.length ∧ M.length ≤ 300 from HGK2.out.2);have HS12 := Aside0.mk (HS10.out.drewn m11);have HB12 := Aside0.mk (pw_below_drewN HB10.out m11);clear hmj HS10 HB10 HST HCC HU10 HO10;generalize w10.drewN m11 = w12 at HS12 HB12 ⊢;generalize hv12 : Value.slice A10 M.length c10 = v12 at HS12 ⊢;obtain ⟨Mt, hMt⟩ : ∃ Mt, Mt = M := ⟨M, rfl⟩
       rw [← hMt] at HMI HMJ HLT HNY HS12 HJ
       clear hMt;obtain ⟨A12, c12, e12, hc12, _, hp12⟩ := HS12.out.read;have HSL := Aside0.mk (show v12 = .slice A12 Mt.length c12 from e12);subst e12;obtain ⟨ad12, e12, x6⟩ := hp12 j mj HMJ.out
       cases e12
       have q1 : (0 ≤ (j : Int)) = True := eq_true (by omega);have q2 : ((j : Int) < (Mt.length : Int)) = True := eq_true (by have := HJ.out; omega);have x7 : w12.cell? ⟨mj.g, 4, none⟩ = some (.int .i64 mj.z.far) := (blk_cell (HS12.out.at HMJ.out).blk 4).trans rfl;have x8 : w12.cell? ⟨m.g, 4, none⟩ = some (.int .i64 m.z.far) := (blk_cell (HS12.out.at HMI.out).blk 4).trans rfl;have x9 : w12.cell? ⟨mj.g, 5, none⟩ = some (.int .i64 mj.z.words) := (blk_cell (HS12.out.at HMJ.out).blk 5).trans rfl;have x10 : w12.cell? ⟨m.g, 5, none⟩ = some (.int .i64 m.z.words) := (blk_cell (HS12.out.at HMI.out).blk 5).trans rfl;have x11 : w12.frozen? ⟨mj.g, 5, none⟩ = false := blk_frozen (HS12.out.at HMJ.out).blk 5;clear hp12 hc12 HSL
       by_cases hfar : mj.z.far = wrap64 (m.z.far + 1)
       ·have c6 : (mj.z.far == wrap64 (m.z.far + 1)) = true := beq_iff_eq.mpr hfar
        have c7 : (mj.z.far == IntKind.i64.wrap (m.z.far + 1)) = true := by rw [i64_w]; exact c6
        have HFAR := Aside0.mk hfar;clear hfar
        go_wp2_with fail
        go_quiet (fail)
        go_wp2_with fail
        go_region
        have HS13 := Aside0.mk ((HS12.out.drewn (nq + 1)).word HMJ.out (wrap64 (mj.z.words + m.z.words)));have HB13 := Aside0.mk (show Below w.heap.size w ((w12.drewN (nq + 1)).setCell ⟨mj.g, 5, none⟩ (.int .i64 (wrap64 (mj.z.words + m.z.words)))) from below_set (pw_below_drewN HB12.out (nq + 1)) (HS12.out.at HMJ.out).base);have HMG := Aside0.mk (show w.heap.size ≤ m.g from (HS12.out.at HMI.out).base);obtain ⟨mi, hmi2, hge, hxn⟩ := set_at (mj' := { mj with z := { mj.z with words := wrap64 (mj.z.words + m.z.words) } }) HMI.out HMJ.out rfl rfl;have HXN := Aside0.mk hxn;have HNZ := Aside0.mk (show ∀ v, reS k (fun L => reA k (300 - i) (i + 1) L) i (3 - d) (d + 1) (((Mt.set j { mj with z := { mj.z with words := wrap64 (mj.z.words + m.z.words) } }).set i { mi with vn := v, z := { mi.z with next := mi.z.next ++ [(j : Int)] } }).map Zm.z) = some (r1, r2) from fun v => by rw [← touch_yes HMJ.out HMI.out HFAR.out rfl hmi2 v]; exact HNY.out);have HLT2 := Aside0.mk (show i < (Mt.set j { mj with z := { mj.z with words := wrap64 (mj.z.words + m.z.words) } }).length ∧ (Mt.set j { mj with z := { mj.z with words := wrap64 (mj.z.words + m.z.words) } }).length ≤ 300 by rw [List.length_set]; exact HLT.out);have HMI2 := Aside0.mk hmi2;have HGE := Aside0.mk hge;clear hmi2 hge hxn HNY HS12 HB12 x6 x7 x8 x9 x10 x11 HFAR;generalize (w12.drewN (nq + 1)).setCell ⟨mj.g, 5, none⟩ (.int .i64 (wrap64 (mj.z.words + m.z.words))) = w13 at HS13 HB13 ⊢;generalize (Mt.set j { mj with z := { mj.z with words := wrap64 (mj.z.words + m.z.words) } }) = M2 at HS13 HMI2 HNZ HLT2;have HK := Aside0.mk (HS13.out.at HMI2.out);obtain ⟨An, cn, en, hcn, _⟩ := Kd.R_reads HK.out.next;have HR13 := Aside0.mk (show Kd.R (Kd.int .i64) 3 w13 w.heap.size (fun _ => True) (.slice An mi.z.next.length cn) mi.z.next by rw [← en]; exact HK.out.next);have HEN := Aside0.mk en;have HBK := Aside0.mk (show w13.heap[m.g]? = some (.cells (zCells mi.z mi.vg (.slice An mi.z.next.length cn)) 41 (0, 0)) by rw [← en, ← HGE.out]; exact HK.out.blk);have HNL := Aside0.mk (show mi.z.next.length ≤ 1000 by rw [HXN.out]; exact HNL0.out);clear hcn en HK;have x12 : w13.cell? ⟨m.g, 8, none⟩ = some (.slice An mi.z.next.length cn) := (blk_cell HBK.out 8).trans rfl
        go_wp2_with (first
         | ((with_reducible refine gate_dst (N := 105) rfl ?_); refine Kd.R_append (Kd.int .i64) (w0 := w) w.heap.size rfl (.tmp 102) (.tmp 104) 39 3 (.int .i64 0) 8 rfl Tryz.underlying39 info3 rfl (by decide) (by omega) (.slice An mi.z.next.length cn) mi.z.next (j : Int) [.int .i64 (j : Int)] (fun _ => True) (fun _ => False) ?h1 ?h2 ?aP (fun _ hk => hk.elim) ?aF ?aO ?aB ?aS ?aL ?_; (case h1 => rfl); (case h2 => rfl); (case aP => exact rfl); (case aB => exact HB13.out); (case aF => exact (fun _ _ => trivial)); (case aO => exact HR13.out); (case aS => exact HB13.out.size); (case aL => have := HNL.out; omega); intro v14 w14 ho14 hb14 hg14 hat14; (obtain ⟨A14, c14, e14⟩ := Kd.R_slice ho14); (generalize hlen14 : (mi.z.next ++ [(j : Int)]).length = n14 at e14); subst e14; (have HB14 := Aside0.mk hb14); (have HBK14 := Aside0.mk (blk_grown HBK.out hg14 (Kd.R_ne HR13.out HBK.out (by decide)))); (have HS15 := Aside0.mk (HS13.out.grow HMI2.out (v1 := .slice A14 n14 c14) (ys := mi.z.next ++ [(j : Int)]) (by rw [HEN.out]; exact hg14) (by rw [HEN.out]; exact hat14) ho14)); clear ho14 hb14 hg14 hat14 x12 hlen14; (have x13 : w14.cell? ⟨m.g, 8, none⟩ = some (.slice An mi.z.next.length cn) := (blk_cell HBK14.out 8).trans rfl); (have f13 := blk_frozen HBK14.out 8)))
        have HS16 := Aside0.mk (show SB (w14.setCell ⟨m.g, 8, none⟩ (.slice A14 n14 c14)) w.heap.size (.slice (some ad12) Mt.length c12) (M2.set i { mi with vn := .slice A14 n14 c14, z := { mi.z with next := mi.z.next ++ [(j : Int)] } }) by rw [← HGE.out]; exact HS15.out);have HB15 := Aside0.mk (show Below w.heap.size w (w14.setCell ⟨m.g, 8, none⟩ (.slice A14 n14 c14)) from below_set HB14.out (HMG.out))
        go_roundg (4 - (d + 1))
        case measure => have := HGK2.out; omega
        case rel => exact ⟨d + 1, _, M2.set i { mi with vn := .slice A14 n14 c14, z := { mi.z with next := mi.z.next ++ [(j : Int)] } }, rfl, by first | rfl | rw [wrap64_nat d (by have := HGK2.out; omega)] | simp, ⟨⟨⟨by have := HGK2.out; omega, Nat.le_refl _⟩, by rw [List.length_set]; exact HLT2.out, { mi with vn := .slice A14 n14 c14, z := { mi.z with next := mi.z.next ++ [(j : Int)] } }, by rw [List.getElem?_set, if_pos rfl, if_pos HLT2.out.1], HGE.out⟩, by rw [show 4 - (d + 1) = 3 - d by omega]; exact HNZ.out _⟩, HS16, HB15⟩
       ·have c6 : (mj.z.far == wrap64 (m.z.far + 1)) = false := beq_eq_false_iff_ne.mpr hfar
        have c7 : (mj.z.far == IntKind.i64.wrap (m.z.far + 1)) = false := by rw [i64_w]; exact c6
        have HNZ := Aside0.mk (show ∀ v, reS k (fun L => reA k (300 - i) (i + 1) L) i (3 - d) (d + 1) ((Mt.set i { m with vn := v, z := { m.z with next := m.z.next ++ [(j : Int)] } }).map Zm.z) = some (r1, r2) from fun v => by rw [← touch_no HMJ.out HMI.out hfar v]; exact HNY.out);have HMG := Aside0.mk (show w.heap.size ≤ m.g from (HS12.out.at HMI.out).base);clear hfar HNY
        go_wp2_with fail
        go_quiet (fail)
        have HB13 := Aside0.mk (pw_below_drewN HB12.out nq);obtain ⟨mi, hmi⟩ : ∃ mi, mi = m := ⟨m, rfl⟩;have HGE := Aside0.mk (show mi.g = m.g by rw [hmi]);have HXN := Aside0.mk (show mi.z.next = m.z.next by rw [hmi]);obtain ⟨M2, hM2⟩ : ∃ M2, M2 = Mt := ⟨Mt, rfl⟩;have HMI2 := Aside0.mk (show M2[i]? = some mi by rw [hM2, hmi]; exact HMI.out);have HS13 := Aside0.mk (show SB (w12.drewN nq) w.heap.size (.slice (some ad12) Mt.length c12) M2 by rw [hM2]; exact HS12.out.drewn nq);have HLT2 := Aside0.mk (show i < M2.length ∧ M2.length ≤ 300 by rw [hM2]; exact HLT.out)
        rw [← hmi, ← hM2] at HNZ
        clear HS12 HB12 x6 x7 x8 x9 x10 x11 hmi hM2;generalize w12.drewN nq = w13 at HS13 HB13 ⊢;have HK := Aside0.mk (HS13.out.at HMI2.out);obtain ⟨An, cn, en, hcn, _⟩ := Kd.R_reads HK.out.next;have HR13 := Aside0.mk (show Kd.R (Kd.int .i64) 3 w13 w.heap.size (fun _ => True) (.slice An mi.z.next.length cn) mi.z.next by rw [← en]; exact HK.out.next);have HEN := Aside0.mk en;have HBK := Aside0.mk (show w13.heap[m.g]? = some (.cells (zCells mi.z mi.vg (.slice An mi.z.next.length cn)) 41 (0, 0)) by rw [← en, ← HGE.out]; exact HK.out.blk);have HNL := Aside0.mk (show mi.z.next.length ≤ 1000 by rw [HXN.out]; exact HNL0.out);clear hcn en HK;have x12 : w13.cell? ⟨m.g, 8, none⟩ = some (.slice An mi.z.next.length cn) := (blk_cell HBK.out 8).trans rfl
        go_wp2_with (first
         | ((with_reducible refine gate_dst (N := 105) rfl ?_); refine Kd.R_append (Kd.int .i64) (w0 := w) w.heap.size rfl (.tmp 102) (.tmp 104) 39 3 (.int .i64 0) 8 rfl Tryz.underlying39 info3 rfl (by decide) (by omega) (.slice An mi.z.next.length cn) mi.z.next (j : Int) [.int .i64 (j : Int)] (fun _ => True) (fun _ => False) ?h1 ?h2 ?aP (fun _ hk => hk.elim) ?aF ?aO ?aB ?aS ?aL ?_; (case h1 => rfl); (case h2 => rfl); (case aP => exact rfl); (case aB => exact HB13.out); (case aF => exact (fun _ _ => trivial)); (case aO => exact HR13.out); (case aS => exact HB13.out.size); (case aL => have := HNL.out; omega); intro v14 w14 ho14 hb14 hg14 hat14; (obtain ⟨A14, c14, e14⟩ := Kd.R_slice ho14); (generalize hlen14 : (mi.z.next ++ [(j : Int)]).length = n14 at e14); subst e14; (have HB14 := Aside0.mk hb14); (have HBK14 := Aside0.mk (blk_grown HBK.out hg14 (Kd.R_ne HR13.out HBK.out (by decide)))); (have HS15 := Aside0.mk (HS13.out.grow HMI2.out (v1 := .slice A14 n14 c14) (ys := mi.z.next ++ [(j : Int)]) (by rw [HEN.out]; exact hg14) (by rw [HEN.out]; exact hat14) ho14)); clear ho14 hb14 hg14 hat14 x12 hlen14; (have x13 : w14.cell? ⟨m.g, 8, none⟩ = some (.slice An mi.z.next.length cn) := (blk_cell HBK14.out 8).trans rfl); (have f13 := blk_frozen HBK14.out 8)))
        have HS16 := Aside0.mk (show SB (w14.setCell ⟨m.g, 8, none⟩ (.slice A14 n14 c14)) w.heap.size (.slice (some ad12) Mt.length c12) (M2.set i { mi with vn := .slice A14 n14 c14, z := { mi.z with next := mi.z.next ++ [(j : Int)] } }) by rw [← HGE.out]; exact HS15.out);have HB15 := Aside0.mk (show Below w.heap.size w (w14.setCell ⟨m.g, 8, none⟩ (.slice A14 n14 c14)) from below_set HB14.out (HMG.out))
        go_roundg (4 - (d + 1))
        case measure => have := HGK2.out; omega
        case rel => exact ⟨d + 1, _, M2.set i { mi with vn := .slice A14 n14 c14, z := { mi.z with next := mi.z.next ++ [(j : Int)] } }, rfl, by first | rfl | rw [wrap64_nat d (by have := HGK2.out; omega)] | simp, ⟨⟨⟨by have := HGK2.out; omega, Nat.le_refl _⟩, by rw [List.length_set]; exact HLT2.out, { mi with vn := .slice A14 n14 c14, z := { mi.z with next := mi.z.next ++ [(j : Int)] } }, by rw [List.getElem?_set, if_pos rfl, if_pos HLT2.out.1], HGE.out⟩, by rw [show 4 - (d + 1) = 3 - d by omega]; exact HNZ.out _⟩, HS16, HB15⟩
     ·obtain rfl : d = 4 := by have := HA.out.1.1; omega
      have c3 : decide (((4 : Nat) : Int) < 4) = false := decide_eq_false (by omega);have hsp := HA.out.2
      rw [show 4 - 4 = 0 from rfl, reS] at hsp
      have HNX := Aside0.mk hsp;have HGK3 := Aside0.mk (show i < M.length ∧ M.length ≤ 300 from HA.out.1.2.1);clear hsp HA hd
      go_wp2
      go_roundg (301 - (i + 1))
      case measure => have := HGK.out; omega
      case rel => exact ⟨i + 1, _, M, rfl, by first | rfl | rw [wrap64_nat i (by have := HGK3.out; omega)] | simp, ⟨⟨by have := HGK3.out; omega, HGK3.out.2, Nat.le_refl _⟩, by rw [show 301 - (i + 1) = 300 - i by omega]; exact HNX.out⟩, HS, HB⟩
   ·obtain rfl : i = M.length := by have := HA.out.1.1; omega
    have c2 : decide ((M.length : Int) < (M.length : Int)) = false := decide_eq_false (by omega);have hsp := HA.out.2
    rw [show 301 - M.length = (300 - M.length) + 1 by have := HA.out.1; omega, reA, if_neg (by rw [List.length_map]; exact hli)] at hsp
    simp only [Option.some.injEq, Prod.mk.injEq] at hsp
    obtain ⟨rfl, rfl⟩ := hsp;have HST := Aside0.mk hstL;have HCL := Aside0.mk hcL;have HML := Aside0.mk (show M.length ≤ 300 from HA.out.1.2.1);subst eL;clear HA hli hstL hptL hcL
    go_wp2
    go_ret2
    exact ⟨AL, cL, by rw [List.length_map]; rfl, by rw [List.length_map]; exact HCL.out, by rw [List.length_map]; exact HML.out, HST.out, HB.out⟩
end Go.Proofs.YtchjgphnglklcaaGreatDoor.Q
end
section
namespace Go.Proofs.YtchjgphnglklcaaGreatDoor.Q
set_option linter.unusedSectionVars false
set_option linter.unusedSimpArgs false
open Go.RowKit Go.Proofs.YtchjgphnglklcaaGreatDoorW.PrintWords Go.Proofs.YtchjgphnglklcaaGreatDoorW.PrintLast Go.Proofs.YtchjgphnglklcaaGreatDoorW.PrintMore
theorem StC.nil (w : World) (A : Option Addr) : StC w A [] := ⟨fun i z hz => by simp at hz⟩
theorem StC.get {w : World} {A : Option Addr} {L : List Zs} (h : StC w A L) {i : Nat} (hi : i < L.length) : ∃ (ad : Addr) (g : Nat) (Ag An : Option Addr) (cg cn : Nat), A = some ad ∧ w.cell? (ad.add i) = some (.pointer (some ⟨g, 0, none⟩)) ∧ w.heap[g]? = some (.cells (zCells (zAt L i) (.slice Ag (zAt L i).cs.length cg) (.slice An (zAt L i).next.length cn)) 41 (0, 0)) ∧
 ((zAt L i).cs.length ≤ cg ∧ Kd.C (Kd.int .u8) w Ag (zAt L i).cs.length (zAt L i).cs) ∧ (zAt L i).next.length ≤ cn ∧ Kd.C (Kd.int .i64) w An (zAt L i).next.length (zAt L i).next := h.at' i (zAt L i) (drop_zAt hi).2
end Go.Proofs.YtchjgphnglklcaaGreatDoor.Q
end
section
namespace Go.Proofs.YtchjgphnglklcaaGreatDoor.Q
set_option linter.unusedSectionVars false
open Go.RowKit Go.Proofs.YtchjgphnglklcaaGreatDoorW.PrintWords Go.Proofs.YtchjgphnglklcaaGreatDoorW.PrintLast Go.Proofs.YtchjgphnglklcaaGreatDoorW.PrintMore
section
variable {t : ByteArray} {w h : Nat} {cs : List Int} {p : List RS × List (List Nat)} (H : Found t w h cs p)
include H
theorem Found.zlen : (foundZ w h p).length = p.1.length := zL_len _ _ _ _ _
theorem Found.zget {j : Nat} {s : RS} (hs : p.1[j]? = some s) : zAt (foundZ w h p) j = zOf w h (vRows p.1 0 V0 p.2) (fun q => p.2.getD q []) j s := zL_get hs
end
end Go.Proofs.YtchjgphnglklcaaGreatDoor.Q
end
section
namespace Go.Proofs.YtchjgphnglklcaaGreatDoor.Q
open Go.RowKit Go.Proofs.YtchjgphnglklcaaGreatDoorW.PrintWords Go.Proofs.YtchjgphnglklcaaGreatDoorW.PrintLast Go.Proofs.YtchjgphnglklcaaGreatDoorW.PrintMore
attribute [local go_sem] max2_int min2_int max_two min_two max_three min_three max_four min_four
set_option linter.unusedVariables false
set_option linter.unusedSimpArgs false
def spec_tiDirs.f  : Option (ByteArray) := some (⟨#[117, 114, 100, 108]⟩ : ByteArray)
set_option maxHeartbeats 8000000 in
set_option maxRecDepth 100000 in
theorem spec_tiDirs.calls  (r : ByteArray) (w : World) (h : spec_tiDirs.f  = some r) :
  Calls Tryz.prog 33 #[] w fun e w' => e = .returned (.string r) ∧ Drawn0 w w' := by
 have H : (some (⟨#[117, 114, 100, 108]⟩ : ByteArray)) = some r := h;clear h;obtain rfl := Option.some.inj H
 go_enter Tryz.func33, Tryz.ntmps33
 go_wp2
 go_ret
 exact ⟨by first | rfl | (simp; done) | (simp [*]; done), by repeat (first | exact Drawn0.refl _ | apply Drawn0.step)⟩
end Go.Proofs.YtchjgphnglklcaaGreatDoor.Q
end
section
namespace Go.Proofs.YtchjgphnglklcaaGreatDoor.Q
set_option linter.unusedSectionVars false
set_option linter.unusedSimpArgs false
open Go.RowKit Go.Proofs.YtchjgphnglklcaaGreatDoorW.PrintWords Go.Proofs.YtchjgphnglklcaaGreatDoorW.PrintLast Go.Proofs.YtchjgphnglklcaaGreatDoorW.PrintMore
def dirT (d : Int) : ByteArray := (⟨#[117, 114, 100, 108]⟩ : ByteArray).extract d.toNat (d + 1).toNat
def reW : Nat → List Zs → Int → ByteArray → Option ByteArray
 | 0, _, _, _ => none
 | m + 1, L, at_, word => if 0 ≤ at_ ∧ at_ < (L.length : Int) then (if 0 ≤ (zAt L at_.toNat).before then (if (0 ≤ (zAt L at_.toNat).dir ∧ (zAt L at_.toNat).dir ≤ 3) ∧ word.size ≤ 1000000 then reW m L (zAt L at_.toNat).before (dirT (zAt L at_.toNat).dir ++ word) else none) else some word) else none
theorem dirs_quiet (w : World) (n : Nat) : Calls Tryz.prog 33 #[] (w.drewN n) fun e w'' => e = .returned (.string ⟨#[117, 114, 100, 108]⟩) ∧ ∃ m, w'' = w.drewN m :=
 Calls.quiet_of ((spec_tiDirs.calls ⟨#[117, 114, 100, 108]⟩ (w.drewN n) rfl).mono fun _ _ h => ⟨h.1, h.2.out⟩)
set_option maxHeartbeats 8000000 in
set_option maxRecDepth 100000 in
theorem spec_reWord.calls (k : Nat) (A : Option Addr) (c : Nat) (L : List Zs) (a1 : Int) (r : ByteArray) (w : World) (hL : StC w A L) (hc : L.length ≤ c) (h : reW k L a1 ⟨#[]⟩ = some r) :
  Calls Tryz.prog 20 #[.slice A L.length c, .int .i64 a1] w fun e w' => e = .returned (.string r) ∧ Drawn0 w w' := by
 have HL := Aside0.mk hL;have HC := Aside0.mk hc;have H := Aside0.mk h;clear hL hc h
 go_enter Tryz.func20, Tryz.ntmps20
 go_wp2
 go_loopg [1, 5] k (fun gg v1 v5 wr => ∃ (at_ : Int) (word : ByteArray), v1 = .int .i64 at_ ∧ v5 = .string word ∧ Aside0 (reW gg L at_ word = some r) ∧ Drawn0 w wr)
 case atStart => exact ⟨a1, ⟨#[]⟩, rfl, rfl, H, Drawn0.refl _⟩
 case round =>
  clear H;obtain ⟨at_, word, rfl, rfl, HA, HDR⟩ := hrel
  cases gk with
  | zero => exact absurd HA.out (by simp [reW])
  | succ k1 =>
   have hsp := HA.out
   rw [reW] at hsp
   split at hsp
   case isFalse => cases hsp
   rename_i hat
   obtain ⟨q, rfl⟩ := Int.eq_ofNat_of_zero_le hat.1
   have hq : q < L.length := by have := hat.2; omega
   rw [Int.toNat_natCast] at hsp
   have p1 : (0 ≤ (q : Int)) = True := eq_true (by omega);have p2 : ((q : Int) < (L.length : Int)) = True := eq_true (by omega);obtain ⟨ad, g, Ag, An, cg, cn, e1, x1, x2, _, _⟩ := (HL.out.below HDR.below).get hq
   cases e1
   have x3 : wr.cell? ⟨g, 6, none⟩ = some (.int .i64 (zAt L q).before) := (blk_cell x2 6).trans rfl;have x4 : wr.cell? ⟨g, 7, none⟩ = some (.int .i64 (zAt L q).dir) := (blk_cell x2 7).trans rfl;clear hat HA x2 hq;generalize zAt L q = z at hsp x3 x4
   by_cases hb : 0 ≤ z.before
   ·have c1 : decide (0 ≤ z.before) = true := decide_eq_true hb
    rw [if_pos hb] at hsp
    split at hsp
    case isFalse => cases hsp
    rename_i hd
    have HN := Aside0.mk hsp;have HW := Aside0.mk hd.2
    have hd4 : z.dir = 0 ∨ z.dir = 1 ∨ z.dir = 2 ∨ z.dir = 3 := by have := hd.1; omega
    clear hsp hb hd
    rcases hd4 with hd | hd | hd | hd
    ·have HD := Aside0.mk hd
     rw [hd] at x4
     clear hd
     have hsl : ∀ W : World, Sem.run Tryz.prog (Instr.slice 9 (.string ⟨#[117, 114, 100, 108]⟩) (some (.int .i64 0)) (some (.int .i64 (IntKind.i64.wrap 1))) none) W = .ok (.string ⟨#[117]⟩) W := fun W => by kernel_rfl
     have hc1 : (9223372036854775807 < 1 + word.size) = False := eq_false (by have := HW.out; omega);have hc2 : (9223372036854775807 < ((⟨#[117]⟩ : ByteArray) ++ word).size) = False := eq_false (by rw [ByteArray.size_append]; have := HW.out; have : (⟨#[117]⟩ : ByteArray).size = 1 := rfl; omega)
     go_wp2_with fail
     go_quiet (exact dirs_quiet _ _)
     go_wp2
     go_roundg k1
     case measure => omega
     case rel => exact ⟨z.before, (⟨#[117]⟩ : ByteArray) ++ word, rfl, rfl, by have := HN.out; rw [HD.out] at this; exact ⟨this⟩, by repeat (first | exact HDR | apply Drawn0.step)⟩
    ·have HD := Aside0.mk hd
     rw [hd] at x4
     clear hd
     have hsl : ∀ W : World, Sem.run Tryz.prog (Instr.slice 9 (.string ⟨#[117, 114, 100, 108]⟩) (some (.int .i64 1)) (some (.int .i64 (IntKind.i64.wrap 2))) none) W = .ok (.string ⟨#[114]⟩) W := fun W => by kernel_rfl
     have hc1 : (9223372036854775807 < 1 + word.size) = False := eq_false (by have := HW.out; omega);have hc2 : (9223372036854775807 < ((⟨#[114]⟩ : ByteArray) ++ word).size) = False := eq_false (by rw [ByteArray.size_append]; have := HW.out; have : (⟨#[114]⟩ : ByteArray).size = 1 := rfl; omega)
     go_wp2_with fail
     go_quiet (exact dirs_quiet _ _)
     go_wp2
     go_roundg k1
     case measure => omega
     case rel => exact ⟨z.before, (⟨#[114]⟩ : ByteArray) ++ word, rfl, rfl, by have := HN.out; rw [HD.out] at this; exact ⟨this⟩, by repeat (first | exact HDR | apply Drawn0.step)⟩
    ·have HD := Aside0.mk hd
     rw [hd] at x4
     clear hd
     have hsl : ∀ W : World, Sem.run Tryz.prog (Instr.slice 9 (.string ⟨#[117, 114, 100, 108]⟩) (some (.int .i64 2)) (some (.int .i64 (IntKind.i64.wrap 3))) none) W = .ok (.string ⟨#[100]⟩) W := fun W => by kernel_rfl
     have hc1 : (9223372036854775807 < 1 + word.size) = False := eq_false (by have := HW.out; omega);have hc2 : (9223372036854775807 < ((⟨#[100]⟩ : ByteArray) ++ word).size) = False := eq_false (by rw [ByteArray.size_append]; have := HW.out; have : (⟨#[100]⟩ : ByteArray).size = 1 := rfl; omega)
     go_wp2_with fail
     go_quiet (exact dirs_quiet _ _)
     go_wp2
     go_roundg k1
     case measure => omega
     case rel => exact ⟨z.before, (⟨#[100]⟩ : ByteArray) ++ word, rfl, rfl, by have := HN.out; rw [HD.out] at this; exact ⟨this⟩, by repeat (first | exact HDR | apply Drawn0.step)⟩
    ·have HD := Aside0.mk hd
     rw [hd] at x4
     clear hd
     have hsl : ∀ W : World, Sem.run Tryz.prog (Instr.slice 9 (.string ⟨#[117, 114, 100, 108]⟩) (some (.int .i64 3)) (some (.int .i64 (IntKind.i64.wrap 4))) none) W = .ok (.string ⟨#[108]⟩) W := fun W => by kernel_rfl
     have hc1 : (9223372036854775807 < 1 + word.size) = False := eq_false (by have := HW.out; omega);have hc2 : (9223372036854775807 < ((⟨#[108]⟩ : ByteArray) ++ word).size) = False := eq_false (by rw [ByteArray.size_append]; have := HW.out; have : (⟨#[108]⟩ : ByteArray).size = 1 := rfl; omega)
     go_wp2_with fail
     go_quiet (exact dirs_quiet _ _)
     go_wp2
     go_roundg k1
     case measure => omega
     case rel => exact ⟨z.before, (⟨#[108]⟩ : ByteArray) ++ word, rfl, rfl, by have := HN.out; rw [HD.out] at this; exact ⟨this⟩, by repeat (first | exact HDR | apply Drawn0.step)⟩
   ·have c1 : decide (0 ≤ z.before) = false := decide_eq_false hb
    rw [if_neg hb] at hsp
    have HE := Aside0.mk (Option.some.inj hsp);clear hsp hb
    go_wp2
    go_ret
    exact ⟨congrArg (fun x => Ending.returned (Value.string x)) HE.out, by repeat (first | exact HDR | apply Drawn0.step)⟩
end Go.Proofs.YtchjgphnglklcaaGreatDoor.Q
end
section
namespace Go.Proofs.YtchjgphnglklcaaGreatDoor.Q
set_option linter.unusedSectionVars false
open Go.RowKit Go.Proofs.YtchjgphnglklcaaGreatDoorW.PrintWords Go.Proofs.YtchjgphnglklcaaGreatDoorW.PrintLast Go.Proofs.YtchjgphnglklcaaGreatDoorW.PrintMore
theorem ByteArray.append_empty' (a : ByteArray) : a ++ (⟨#[]⟩ : ByteArray) = a := by
 apply ByteArray.ext
 rw [ByteArray.data_append]
 exact Array.append_empty ..
theorem ba_assoc (a b c : ByteArray) : (a ++ b) ++ c = a ++ (b ++ c) := by
 apply ByteArray.ext
 simp only [ByteArray.data_append, Array.append_assoc]
theorem reW_ev {t : ByteArray} {w h : Nat} {cs : List Int} {p : List RS × List (List Nat)} (H : Found t w h cs p) : ∀ (j : Nat) (s : RS), p.1[j]? = some s → ∀ word : ByteArray, word.size + s.far ≤ 1000 → Ev (fun k => reW k (foundZ w h p) (j : Int) word) (wordT s.word ++ word) := by
 intro j
 induction j using Nat.strongRecOn with
 | _ j ih =>
  intro s hs word hw;have hj := (List.getElem?_eq_some_iff.1 hs).1;have hzl := H.zlen
  rcases Nat.eq_zero_or_pos j with e | hpos
  ·subst e
   obtain ⟨l, e⟩ := H.done.inv.first
   have hs0 : s = ⟨cs, 0, [], -1, 0⟩ := by
    rw [e] at hs
    exact (Option.some.inj hs).symm
   subst hs0
   refine Ev.step (Ev.const (o := some word) ?_) fun k => ?_
   ·rw [show wordT (⟨cs, 0, [], -1, 0⟩ : RS).word = (⟨#[]⟩ : ByteArray) from rfl]
    congr 1
   ·rw [reW, if_pos ⟨by omega, by rw [hzl]; omega⟩, Int.toNat_natCast, H.zget hs, if_neg (by show ¬ (0 : Int) ≤ -1; decide)]
  ·obtain ⟨i, b, h1, h2, h3, h4, h5, h6, h7⟩ := H.done.inv.back j s hs hpos
   have hd := dcut ⟨s.dir, h7⟩
   have hcast : ((s.dir : Int) + 1).toNat = ((s.dir + 1 : Nat) : Int).toNat := by omega
   have hdt : dirT (s.dir : Int) = strOfNums [dirC s.dir] := by
    unfold dirT
    rw [hcast]
    exact hd
   have hsz : (strOfNums [dirC s.dir]).size = 1 := rfl;have ih1 := ih i h2 b h3 (strOfNums [dirC s.dir] ++ word) (by rw [ByteArray.size_append, hsz]; omega)
   have hword : wordT s.word ++ word = wordT b.word ++ (strOfNums [dirC s.dir] ++ word) := by
    rw [← ba_assoc, h6]
    unfold wordT
    rw [son_append, List.map_append]
    rfl
   rw [hword]
   refine Ev.step ih1 fun k => ?_
   rw [reW, if_pos ⟨by omega, by rw [hzl]; omega⟩, Int.toNat_natCast, H.zget hs]
   rw [show (zOf w h (vRows p.1 0 V0 p.2) (fun q => p.2.getD q []) j s).before = s.before from rfl, show (zOf w h (vRows p.1 0 V0 p.2) (fun q => p.2.getD q []) j s).dir = (s.dir : Int) from rfl, h1, if_pos (by omega), if_pos ⟨⟨by omega, by omega⟩, by omega⟩, hdt]
end Go.Proofs.YtchjgphnglklcaaGreatDoor.Q
end
section
namespace Go.Proofs.YtchjgphnglklcaaGreatDoor.Q
open Go.RowKit Go.Proofs.YtchjgphnglklcaaGreatDoorW.PrintWords Go.Proofs.YtchjgphnglklcaaGreatDoorW.PrintLast Go.Proofs.YtchjgphnglklcaaGreatDoorW.PrintMore
attribute [local go_sem] max2_int min2_int max_two min_two max_three min_three max_four min_four
set_option linter.unusedVariables false
set_option linter.unusedSimpArgs false
def spec_tiPlace.l0 : Nat → Int → List Int → Int → Int → Option (Int)
 | 0, _, _, _, _ => none
 | k + 1, x1, x8, x9, x10 => if x10 < x9 then (if 0 ≤ x10 then (if x10 < (x8.length : Int) then (if (rd x8 x10) = x1 then (some x10) else (spec_tiPlace.l0 k x1 x8 x9 (wrap64 (x10 + 1)))) else (none)) else (none)) else (some (-1))
def spec_tiPlace.f (k : Nat) (a0_0 : Int) (a0_1 : Int) (l0_2 : List Int) (a1 : Int) : Option (Int) := spec_tiPlace.l0 k a1 l0_2 (l0_2.length : Int) 0
set_option maxHeartbeats 8000000 in
set_option maxRecDepth 100000 in
theorem spec_tiPlace.calls (k : Nat) (a0_0 : Int) (a0_1 : Int) (A0_2 : Option Addr) (c0_2 : Nat) (l0_2 : List Int) (a1 : Int) (r : Int) (w : World) (hr0_2 : Kd.C (Kd.int .u8) w A0_2 l0_2.length l0_2) (hc0_2 : l0_2.length ≤ c0_2) (h : spec_tiPlace.f k a0_0 a0_1 l0_2 a1 = some r) :
  Calls Tryz.prog 19 #[.agg #[.int .i64 a0_0, .int .i64 a0_1, .slice A0_2 l0_2.length c0_2], .int .u8 a1] w fun e w' => e = .returned (.int .i64 r) ∧ Below w.heap.size w w' := by
 have hu38 := Tryz.underlying38;have HR0_2 := Aside0.mk hr0_2;have HC0_2 := Aside0.mk hc0_2;clear hr0_2 hc0_2;have HB := Aside0.mk (Below.refl w.heap.size w);have H : (spec_tiPlace.l0 k a1 l0_2 (l0_2.length : Int) 0) = some r := h;clear h;have H' := Aside0.mk H;clear H
 go_enter Tryz.func19, Tryz.ntmps19
 go_wp2_with (first | ((with_reducible refine gate_dst (N := 2) rfl ?_); refine boxE (N := 2) (cs := #[.int .i64 a0_0, .int .i64 a0_1, .slice A0_2 l0_2.length c0_2]) (t := 38) ?_; intro gb101 hg w3 hbox hb; have n0_ := Aside0.mk (below_step (bel HB) hb); have n1_ := Aside0.mk (hbox); have n2_ := Aside0.mk (gsz hg (bel HB)); have n3_ := Aside0.mk (gsz hg (bel HB)); clear HB; have HB := n0_; have BK101 := n1_; have GW101 := n2_; have GE101 := n3_; clear n0_ n1_ n2_ n3_; clear hb hbox hg; have hcz4_0 : w3.cell? ⟨gb101, 0, none⟩ = some (.int .i64 a0_0) := (blk_cell BK101.out 0).trans rfl; have hcz4_1 : w3.cell? ⟨gb101, 1, none⟩ = some (.int .i64 a0_1) := (blk_cell BK101.out 1).trans rfl; have hcz4_2 : w3.cell? ⟨gb101, 2, none⟩ = some (.slice A0_2 l0_2.length c0_2) := (blk_cell BK101.out 2).trans rfl; have hfz4_0 := blk_frozen BK101.out 0; have hfz4_1 := blk_frozen BK101.out 1; have hfz4_2 := blk_frozen BK101.out 2))
 go_loopg [10] k (fun kq v10 w' => ∃ (x10_1 : Int), v10 = .int .i64 x10_1 ∧ Aside0 (spec_tiPlace.l0 kq a1 l0_2 (l0_2.length : Int) x10_1 = some r) ∧ Aside0 (kq ≤ k) ∧ Aside0 (w'.heap[gb101]? = some (.cells #[.int .i64 a0_0, .int .i64 a0_1, (.slice A0_2 l0_2.length c0_2)] 38 (0, 0))) ∧ Aside0 (Below w.heap.size w w'))
 case atStart => exact ⟨(0), (by first | rfl | (simp; done) | (simp [*]; done)), H', ⟨Nat.le_refl _⟩, ⟨blc⟩, ⟨bel HB⟩⟩
 case round =>
  clear H'
  try clear c1
  try clear p2
  try clear hcz4_0
  try clear hcz4_1
  try clear hcz4_2
  try clear hfz4_0
  try clear hfz4_1
  try clear hfz4_2
  obtain ⟨x10_1, rfl, HA, HK1, BK101, HB⟩ := hrel
  cases gk with
  | zero => exact absurd HA.out (by simp [spec_tiPlace.l0])
  | succ k1 =>
   have H := HA.out;clear HA
   simp only [spec_tiPlace.l0] at H
   by_cases c5 : x10_1 < (l0_2.length : Int)
   ·rw [if_pos c5] at H
    have c5b0 : decide (x10_1 < (l0_2.length : Int)) = true := decide_eq_true c5;clear c5
    by_cases c6 : 0 ≤ x10_1
    ·rw [if_pos c6] at H
     have c6b0 : decide (0 ≤ x10_1) = true := decide_eq_true c6;clear c6
     by_cases c7 : x10_1 < (l0_2.length : Int)
     ·rw [if_pos c7] at H
      have c7b0 : decide (x10_1 < (l0_2.length : Int)) = true := decide_eq_true c7;clear c7
      by_cases c8 : (rd l0_2 x10_1) = a1
      ·rw [if_pos c8] at H
       have c8b0 : ((rd l0_2 x10_1) == a1) = true := beq_iff_eq.mpr c8;have c8b1 : ((rd l0_2 x10_1) != a1) = false := bne_eq_false_iff_eq.mpr c8;clear c8;obtain rfl := Option.some.inj H;have p102 : 0 ≤ (x10_1 : Int) := of_decide_eq_true (by first | (with_reducible assumption) | assumption);have q102 : x10_1 < (l0_2.length : Int) := of_decide_eq_true (by first | (with_reducible assumption) | assumption);obtain ⟨ad102, e102, hx102_0⟩ := Kd.at_int HR0_2.out x10_1 p102 q102
       cases e102
       (try replace hx102_0 := (HB.out.cell (World.block_lt_of_cell? w _ hx102_0)).trans hx102_0)
       replace p102 := eq_true p102;replace q102 := eq_true q102
       go_wp2
       go_ret
       exact ⟨by first | rfl | (simp [errW_none, errW_some] <;> rfl) | (simp [*, errW_none, errW_some] <;> rfl), bel HB⟩
      ·rw [if_neg c8] at H
       have c8b0 : ((rd l0_2 x10_1) == a1) = false := beq_eq_false_iff_ne.mpr c8;have c8b1 : ((rd l0_2 x10_1) != a1) = true := bne_iff_ne.mpr c8;have H' := Aside0.mk H;clear H;have p102 : 0 ≤ (x10_1 : Int) := of_decide_eq_true (by first | (with_reducible assumption) | assumption);have q102 : x10_1 < (l0_2.length : Int) := of_decide_eq_true (by first | (with_reducible assumption) | assumption);obtain ⟨ad102, e102, hx102_0⟩ := Kd.at_int HR0_2.out x10_1 p102 q102
       cases e102
       (try replace hx102_0 := (HB.out.cell (World.block_lt_of_cell? w _ hx102_0)).trans hx102_0)
       replace p102 := eq_true p102;replace q102 := eq_true q102
       go_wp2
       go_roundg k1
       case measure => have := HK1.out; omega
       case rel => exact ⟨(wrap64 (x10_1 + 1)), (by first | rfl | (simp; done) | (simp [*]; done)), H', ⟨by have := HK1.out; omega⟩, ⟨blc⟩, ⟨bel HB⟩⟩
     ·rw [if_neg c7] at H
      exact absurd H (by simp)
    ·rw [if_neg c6] at H
     exact absurd H (by simp)
   ·rw [if_neg c5] at H
    have c5b0 : decide (x10_1 < (l0_2.length : Int)) = false := decide_eq_false c5;clear c5;obtain rfl := Option.some.inj H
    go_wp2
    go_ret
    exact ⟨by first | rfl | (simp [errW_none, errW_some] <;> rfl) | (simp [*, errW_none, errW_some] <;> rfl), bel HB⟩
def slices_Index_byte_byte.l0 : Nat → List Int → Int → Int → Int → Option (Int)
 | 0, _, _, _, _ => none
 | k + 1, x0, x1, x7, x8 => if x8 < x7 then (if 0 ≤ x8 then (if x8 < (x0.length : Int) then (if x1 = (rd x0 x8) then (some x8) else (slices_Index_byte_byte.l0 k x0 x1 x7 (wrap64 (x8 + 1)))) else (none)) else (none)) else (some (-1))
def slices_Index_byte_byte.f (k : Nat) (l0 : List Int) (a1 : Int) : Option (Int) := slices_Index_byte_byte.l0 k l0 a1 (l0.length : Int) 0
set_option maxHeartbeats 8000000 in
set_option maxRecDepth 100000 in
theorem slices_Index_byte_byte.calls (k : Nat) (A0 : Option Addr) (c0 : Nat) (l0 : List Int) (a1 : Int) (r : Int) (w : World) (hr0 : Kd.C (Kd.int .u8) w A0 l0.length l0) (hc0 : l0.length ≤ c0) (h : slices_Index_byte_byte.f k l0 a1 = some r) :
  Calls Tryz.prog 37 #[.slice A0 l0.length c0, .int .u8 a1] w fun e w' => e = .returned (.int .i64 r) ∧ Drawn0 w w' := by
 have HR0 := Aside0.mk hr0;have HC0 := Aside0.mk hc0;clear hr0 hc0;have H : (slices_Index_byte_byte.l0 k l0 a1 (l0.length : Int) 0) = some r := h;clear h;have H' := Aside0.mk H;clear H
 go_enter Tryz.func37, Tryz.ntmps37
 go_wp2
 go_loopg [8] k (fun kq v8 w' => ∃ (x8_1 : Int), v8 = .int .i64 x8_1 ∧ Aside0 (slices_Index_byte_byte.l0 kq l0 a1 (l0.length : Int) x8_1 = some r) ∧ Aside0 (kq ≤ k) ∧ Drawn0 w w')
 case atStart => exact ⟨(0), (by first | rfl | (simp; done) | (simp [*]; done)), H', ⟨Nat.le_refl _⟩, by repeat (first | exact Drawn0.refl _ | apply Drawn0.step)⟩
 case round =>
  clear H'
  try clear p2
  obtain ⟨x8_1, rfl, HA, HK1, ⟨m1, rfl⟩⟩ := hrel
  cases gk with
  | zero => exact absurd HA.out (by simp [slices_Index_byte_byte.l0])
  | succ k1 =>
   have H := HA.out;clear HA
   simp only [slices_Index_byte_byte.l0] at H
   by_cases c3 : x8_1 < (l0.length : Int)
   ·rw [if_pos c3] at H
    have c3b0 : decide (x8_1 < (l0.length : Int)) = true := decide_eq_true c3;clear c3
    by_cases c4 : 0 ≤ x8_1
    ·rw [if_pos c4] at H
     have c4b0 : decide (0 ≤ x8_1) = true := decide_eq_true c4;clear c4
     by_cases c5 : x8_1 < (l0.length : Int)
     ·rw [if_pos c5] at H
      have c5b0 : decide (x8_1 < (l0.length : Int)) = true := decide_eq_true c5;clear c5
      by_cases c6 : a1 = (rd l0 x8_1)
      ·rw [if_pos c6] at H
       have c6b0 : (a1 == (rd l0 x8_1)) = true := beq_iff_eq.mpr c6;have c6b1 : (a1 != (rd l0 x8_1)) = false := bne_eq_false_iff_eq.mpr c6;clear c6;obtain rfl := Option.some.inj H;have p101 : 0 ≤ (x8_1 : Int) := of_decide_eq_true (by first | (with_reducible assumption) | assumption);have q101 : x8_1 < (l0.length : Int) := of_decide_eq_true (by first | (with_reducible assumption) | assumption);obtain ⟨ad101, e101, hx101_0⟩ := Kd.at_int HR0.out x8_1 p101 q101
       cases e101
       replace p101 := eq_true p101;replace q101 := eq_true q101
       go_wp2
       go_ret
       exact ⟨by first | rfl | (simp; done) | (simp [*]; done), by repeat (first | exact Drawn0.refl _ | apply Drawn0.step)⟩
      ·rw [if_neg c6] at H
       have c6b0 : (a1 == (rd l0 x8_1)) = false := beq_eq_false_iff_ne.mpr c6;have c6b1 : (a1 != (rd l0 x8_1)) = true := bne_iff_ne.mpr c6;have H' := Aside0.mk H;clear H;have p101 : 0 ≤ (x8_1 : Int) := of_decide_eq_true (by first | (with_reducible assumption) | assumption);have q101 : x8_1 < (l0.length : Int) := of_decide_eq_true (by first | (with_reducible assumption) | assumption);obtain ⟨ad101, e101, hx101_0⟩ := Kd.at_int HR0.out x8_1 p101 q101
       cases e101
       replace p101 := eq_true p101;replace q101 := eq_true q101
       go_wp2
       go_roundg k1
       case measure => have := HK1.out; omega
       case rel => exact ⟨(wrap64 (x8_1 + 1)), (by first | rfl | (simp; done) | (simp [*]; done)), H', ⟨by have := HK1.out; omega⟩, by repeat (first | exact Drawn0.refl _ | apply Drawn0.step)⟩
     ·rw [if_neg c5] at H
      exact absurd H (by simp)
    ·rw [if_neg c4] at H
     exact absurd H (by simp)
   ·rw [if_neg c3] at H
    have c3b0 : decide (x8_1 < (l0.length : Int)) = false := decide_eq_false c3;clear c3;obtain rfl := Option.some.inj H
    go_wp2
    go_ret
    exact ⟨by first | rfl | (simp; done) | (simp [*]; done), by repeat (first | exact Drawn0.refl _ | apply Drawn0.step)⟩
def impl_cellOf.j0 : Nat → ByteArray → ByteArray → Bool → Option (Int × Bool)
 | 0, _, _, _ => none
 | k + 1, x0, x1, x20 => if x20 = true then (some (0, false)) else ((impl_read.f x0).bind fun bt103 => (if 0 < (x1.size : Int) then ((slices_Index_byte_byte.f k bt103.2.2 (bt x1 0)).bind fun t108 => (some (t108, decide (t108 ≥ 0)))) else (none)))
def impl_cellOf.f (k : Nat) (a0 : ByteArray) (a1 : ByteArray) : Option (Int × Bool) := (impl_IsTray.f k a0).bind fun t101 => (if t101 = true then (if (a1.size : Int) = 1 then (if 0 < (a1.size : Int) then ((impl_isName.f (bt a1 0)).bind fun t102 => (impl_cellOf.j0 k a0 a1 (!t102))) else (none)) else (impl_cellOf.j0 k a0 a1 true)) else (impl_cellOf.j0 k a0 a1 true))
set_option maxHeartbeats 8000000 in
set_option maxRecDepth 100000 in
theorem impl_cellOf.calls (k : Nat) (a0 : ByteArray) (a1 : ByteArray) (r1 : Int) (r2 : Bool) (w : World) (hG : GoodW w) (h : impl_cellOf.f k a0 a1 = some (r1, r2)) :
  Calls Tryz.prog 34 #[.string a0, .string a1] w fun e w' => e = .returned (.tuple #[.int .i64 r1, .bool r2]) ∧ Below w.heap.size w w' := by
 have hu64 := Tryz.underlying64
 have hfd64_2 : ∀ (a0 : Int) (a1 : Int) (A2 : Option Addr) (n2 c2 : Nat) (W : World), (Instr.field 64 (.agg #[.int .i64 a0, .int .i64 a1, .slice A2 n2 c2]) 2).run Tryz.prog W = .ok (.slice A2 n2 c2) W := fun _ _ _ _ _ _ => by kernel_rfl
 have HG := Aside0.mk hG;clear hG;have HB := Aside0.mk (Below.refl w.heap.size w);have H : ((impl_IsTray.f k a0).bind fun t101 => (if t101 = true then (if (a1.size : Int) = 1 then (if 0 < (a1.size : Int) then ((impl_isName.f (bt a1 0)).bind fun t102 => (impl_cellOf.j0 k a0 a1 (!t102))) else (none)) else (impl_cellOf.j0 k a0 a1 true)) else (impl_cellOf.j0 k a0 a1 true))) = some (r1, r2) := h;clear h;have HC3 := Aside0.mk H;clear H
 go_enter Tryz.func34, Tryz.ntmps34
 go_upto_region 1 with (fail)
 go_cut [20] (fun v20 wc => ∃ (kq : Nat) (x20_2 : Bool), v20 = .bool x20_2 ∧ Aside0 (impl_cellOf.j0 kq a0 a1 x20_2 = some (r1, r2)) ∧ Aside0 (kq ≤ k) ∧ Aside0 (Below w.heap.size w wc))
 case first =>
  have H := HC3.out;clear HC3;replace H := Option.bind_eq_some_iff.mp H;obtain ⟨t101, A40, H⟩ := H;replace H : (if t101 = true then (if (a1.size : Int) = 1 then (if 0 < (a1.size : Int) then ((impl_isName.f (bt a1 0)).bind fun t102 => (impl_cellOf.j0 k a0 a1 (!t102))) else (none)) else (impl_cellOf.j0 k a0 a1 true)) else (impl_cellOf.j0 k a0 a1 true)) = some (r1, r2) := H;have A4 := Aside0.mk A40;clear A40
  by_cases c5 : t101 = true
  ·subst c5
   have H1 : (if (a1.size : Int) = 1 then (if 0 < (a1.size : Int) then ((impl_isName.f (bt a1 0)).bind fun t102 => (impl_cellOf.j0 k a0 a1 (!t102))) else (none)) else (impl_cellOf.j0 k a0 a1 true)) = some (r1, r2) := by rw [if_pos rfl] at H; exact H
   clear H;have H := H1;clear H1
   by_cases c6 : (a1.size : Int) = 1
   ·rw [if_pos c6] at H
    have c6b0 : ((a1.size : Int) == 1) = true := beq_iff_eq.mpr c6;have c6b1 : ((a1.size : Int) != 1) = false := bne_eq_false_iff_eq.mpr c6;clear c6
    (first | rw [c6b0] | (simp only [i64_w, i32_w]; rw [c6b0]) | skip)
    by_cases c7 : 0 < (a1.size : Int)
    ·rw [if_pos c7] at H
     have c7b0 : decide (0 < (a1.size : Int)) = true := decide_eq_true c7;have c7b1 : decide (0 < a1.size) = true := decide_eq_true (by omega);clear c7;replace H := Option.bind_eq_some_iff.mp H;obtain ⟨t102, A90, H⟩ := H;replace H : (impl_cellOf.j0 k a0 a1 (!t102)) = some (r1, r2) := H;have A9 := Aside0.mk A90;clear A90;have H' := Aside0.mk H;clear H
     go_wp2_with (first | ((with_reducible refine gate_callee (f := 27) rfl ?_); refine gcall (some 8) Tryz.func27 #[.string a0] rfl ?_; (with_reducible refine (impl_IsTray.calls k a0 true _ ?side1 A4.out).mono ?_); (case side1 => (refine GoodW.below HG.out ?_); exact bel HB); rintro e w10 ⟨rfl, hb⟩; refine ⟨_, rfl, ?_⟩; have n0_ := Aside0.mk (below_step (bel HB) hb); clear HB; have HB := n0_; clear n0_; (try clear hb); (try clear hb2); (try clear hk); (try clear hi); have p8 : 0 ≤ (0 : Int) := (by omega); have q8 : 0 < a1.size := (by have : (0 : Int) < (a1.size : Int) := of_decide_eq_true (by first | (with_reducible assumption) | assumption); omega); have hx8 : ∀ h : 0 < a1.size, ((a1[0]'h).toNat : Int) = bt a1 0 := bt_at a1 0; clear p8; have qi8 : (0 < (a1.size : Int)) = True := eq_true (of_decide_eq_true (by first | (with_reducible assumption) | assumption)); replace q8 := eq_true q8) | (go_at_call 50; (with_reducible refine (impl_isName.calls (bt a1 0) t102 _ A9.out).mono ?_); rintro e w' ⟨rfl, ⟨nd, rfl⟩⟩))
     go_meet
     case rel => exact ⟨_, (!t102), (by first | rfl | (simp; done) | (simp [*]; done)), H', ⟨by first | omega | exact Nat.le_refl _⟩, ⟨bel HB⟩⟩
    ·rw [if_neg c7] at H
     exact absurd H (by simp)
   ·rw [if_neg c6] at H
    have c6b0 : ((a1.size : Int) == 1) = false := beq_eq_false_iff_ne.mpr c6;have c6b1 : ((a1.size : Int) != 1) = true := bne_iff_ne.mpr c6
    (first | rw [c6b0] | (simp only [i64_w, i32_w]; rw [c6b0]) | skip)
    have H' := Aside0.mk H;clear H
    go_wp2_with (first | ((with_reducible refine gate_callee (f := 27) rfl ?_); refine gcall (some 8) Tryz.func27 #[.string a0] rfl ?_; (with_reducible refine (impl_IsTray.calls k a0 true _ ?side1 A4.out).mono ?_); (case side1 => (refine GoodW.below HG.out ?_); exact bel HB); rintro e w11 ⟨rfl, hb⟩; refine ⟨_, rfl, ?_⟩; have n0_ := Aside0.mk (below_step (bel HB) hb); clear HB; have HB := n0_; clear n0_; (try clear hb); (try clear hb2); (try clear hk); (try clear hi)))
    go_meet
    case rel => exact ⟨_, (true), (by first | rfl | (simp; done) | (simp [*]; done)), H', ⟨by first | omega | exact Nat.le_refl _⟩, ⟨bel HB⟩⟩
  ·replace c5 := Bool.eq_false_iff.mpr c5
   subst c5
   have H1 : (impl_cellOf.j0 k a0 a1 true) = some (r1, r2) := by rw [if_neg (show ¬ (false = true) by decide)] at H; exact H
   clear H;have H := H1;clear H1;have H' := Aside0.mk H;clear H
   go_wp2_with (first | ((with_reducible refine gate_callee (f := 27) rfl ?_); refine gcall (some 8) Tryz.func27 #[.string a0] rfl ?_; (with_reducible refine (impl_IsTray.calls k a0 false _ ?side1 A4.out).mono ?_); (case side1 => (refine GoodW.below HG.out ?_); exact bel HB); rintro e w12 ⟨rfl, hb⟩; refine ⟨_, rfl, ?_⟩; have n0_ := Aside0.mk (below_step (bel HB) hb); clear HB; have HB := n0_; clear n0_; (try clear hb); (try clear hb2); (try clear hk); (try clear hi)))
   go_meet
   case rel => exact ⟨_, (true), (by first | rfl | (simp; done) | (simp [*]; done)), H', ⟨by first | omega | exact Nat.le_refl _⟩, ⟨bel HB⟩⟩
 case rest =>
  clear HC3
  try clear c2
  try clear p2
  try clear c3
  try clear c5
  try clear c6
  try clear c6b0
  try clear c6b0y
  try clear c6b1
  try clear c7
  try clear c7b0
  try clear c7b0y
  try clear c7b1
  try clear p8
  try clear q8
  try clear hx8
  try clear qi8
  try clear p8
  try clear q8
  obtain ⟨kq, x20_2, rfl, HA, HJ2, HB⟩ := hcut
  cases kq with
  | zero => exact absurd HA.out (by simp [impl_cellOf.j0])
  | succ kj2 =>
   have H := HA.out;clear HA
   simp only [impl_cellOf.j0] at H
   by_cases c13 : x20_2 = true
   ·subst c13
    have H1 : (some (0, false)) = some (r1, r2) := by rw [if_pos rfl] at H; exact H
    clear H;have H := H1;clear H1
    simp only [Option.some.injEq, Prod.mk.injEq] at H
    obtain ⟨rfl, rfl⟩ := H
    go_wp2
    go_ret2
    exact ⟨by first | rfl | (simp [errW_none, errW_some] <;> rfl) | (simp [*, errW_none, errW_some] <;> rfl), bel HB⟩
   ·replace c13 := Bool.eq_false_iff.mpr c13
    subst c13
    have H1 : ((impl_read.f a0).bind fun bt103 => (if 0 < (a1.size : Int) then ((slices_Index_byte_byte.f kj2 bt103.2.2 (bt a1 0)).bind fun t108 => (some (t108, decide (t108 ≥ 0)))) else (none))) = some (r1, r2) := by rw [if_neg (show ¬ (false = true) by decide)] at H; exact H
    clear H;have H := H1;clear H1;replace H := Option.bind_eq_some_iff.mp H;obtain ⟨⟨t103, t104, t105⟩, A140, H⟩ := H;replace H : (if 0 < (a1.size : Int) then ((slices_Index_byte_byte.f kj2 t105 (bt a1 0)).bind fun t108 => (some (t108, decide (t108 ≥ 0)))) else (none)) = some (r1, r2) := H;have A14 := Aside0.mk A140;clear A140
    by_cases c15 : 0 < (a1.size : Int)
    ·rw [if_pos c15] at H
     have c15b0 : decide (0 < (a1.size : Int)) = true := decide_eq_true c15;have c15b1 : decide (0 < a1.size) = true := decide_eq_true (by omega);clear c15;replace H := Option.bind_eq_some_iff.mp H;obtain ⟨t108, A170, H⟩ := H;replace H : (some (t108, decide (t108 ≥ 0))) = some (r1, r2) := H;have A17 := Aside0.mk A170;clear A170
     simp only [Option.some.injEq, Prod.mk.injEq] at H
     obtain ⟨rfl, rfl⟩ := H
     try go_wp2
     have n0_ := Aside0.mk (below_drew1 HB.out);clear HB;have HB := n0_;clear n0_;have p16 : 0 ≤ (0 : Int) := (by omega);have q16 : 0 < a1.size := (by have : (0 : Int) < (a1.size : Int) := of_decide_eq_true (by first | (with_reducible assumption) | assumption); omega);have hx16 : ∀ h : 0 < a1.size, ((a1[0]'h).toNat : Int) = bt a1 0 := bt_at a1 0;clear p16;have qi16 : (0 < (a1.size : Int)) = True := eq_true (of_decide_eq_true (by first | (with_reducible assumption) | assumption));replace q16 := eq_true q16
     refine start_ (n := 7) (S := fun w' => True) (ds := []) #[false, false, false, false, false, false, false] (by kernel_rfl) rfl rfl trivial (fun hHeld => ?_)
     generalize wc.drew = w18 at HB hHeld ⊢
     refine pure_ (i := 0) (N := some 21) (v := ?_) (a' := ?_) #[true, false, false, false, false, false, false] rfl rfl (by kernel_rfl) (fun _ _ _ h => h) (Or.inl ⟨by rfl, ?_⟩) ?_ ?_
     rotate_left
     ·intro w'
      go_simp
      with_reducible rfl
     rotate_left
     ·simp only [Act.put, List.setIfInBounds_toArray, List.set_cons_zero, List.set_cons_succ, i64_w, i32_w]
      rfl
     refine pure_ (i := 3) (N := some 24) (v := ?_) (a' := ?_) #[true, false, false, true, false, false, false] rfl rfl (by kernel_rfl) (fun _ _ _ h => h) (Or.inl ⟨by rfl, ?_⟩) ?_ ?_
     rotate_left
     ·intro w'
      go_simp
      with_reducible rfl
     rotate_left
     ·simp only [Act.put, List.setIfInBounds_toArray, List.set_cons_zero, List.set_cons_succ, i64_w, i32_w]
      rfl
     refine take_ (i := 4) (N := some 25) (v := ?_) (a' := ?_) #[true, false, false, true, true, false, false] rfl rfl (by kernel_rfl) (fun _ _ _ h => h) (Or.inl ⟨by rfl, ?_⟩) hHeld ?_ ?_
     rotate_left
     ·intro w' _
      go_simp
      with_reducible rfl
     rotate_left
     ·simp only [Act.put, List.setIfInBounds_toArray, List.set_cons_zero, List.set_cons_succ, i64_w, i32_w]
      rfl
     refine one_ (i := 1) (N := some 22) #[true, true, false, true, true, false, false] rfl rfl (by kernel_rfl) (by decide) (fun K hK => ?_)
     refine goes_ Tryz.func36 (by kernel_rfl) rfl #[.string a0] (by rfl) rfl rfl (by (try simp only [List.map_toArray, List.map_cons, List.map_nil]); first | done | rfl | (simp only [List.length_drop, List.length_take]; rfl)) ?_
     with_reducible refine (impl_read.calls a0 t103 t104 t105 _ ?side1 A14.out).mono ?_
     (case side1 => (refine GoodW.below HG.out ?_); exact bel HB)
     rintro e w19 ⟨v106, rfl, ho0, hb⟩
     refine ⟨_, rfl, ?_⟩
     have n0_ := Aside0.mk (Kd.V_lower (Kd.V_mono (ok' := fun k_ => True) ho0 (fun k_ hk_ => trivial)) (below_size (bel HB)));have n1_ := Aside0.mk (below_step (bel HB) hb);clear HB;have HO107 := n0_;have HB := n1_;clear n0_ n1_
     (try clear hb)
     (try clear hb2)
     (try clear hk)
     (try clear hi)
     (try clear ho0)
     obtain ⟨Ao20, co20, eo20⟩ := Kd.V_slice HO107.out
     (first | subst eo20 | (injection eo20 with f1_ f2_ f3_; have f4_ := f1_.symm; have f5_ := f3_.symm; clear f1_ f2_ f3_; subst f4_; subst f5_))
     refine hK.out _ _ trivial (fun hHeld => ?_)
     clear hK K
     refine norm_ (a' := ?_) ?_ ?_
     rotate_left
     ·show Act.put _ (some 22) _ = _
      simp only [Act.put, List.setIfInBounds_toArray, List.set_cons_zero, List.set_cons_succ, i64_w, i32_w]
      rfl
     refine pure_ (i := 2) (N := some 23) (v := ?_) (a' := ?_) #[true, true, true, true, true, false, false] rfl rfl (by kernel_rfl) (fun _ _ _ h => h) (Or.inl ⟨by rfl, ?_⟩) ?_ ?_
     rotate_left
     ·intro w'
      go_simp
      with_reducible rfl
     rotate_left
     ·simp only [Act.put, List.setIfInBounds_toArray, List.set_cons_zero, List.set_cons_succ, i64_w, i32_w]
      rfl
     refine one_ (i := 5) (N := some 26) #[true, true, true, true, true, true, false] rfl rfl (by kernel_rfl) (by decide) (fun K hK => ?_)
     refine goes_ Tryz.func37 (by kernel_rfl) rfl #[.slice Ao20 t105.length co20, .int .u8 (bt a1 0)] (by rfl) rfl rfl (by (try simp only [List.map_toArray, List.map_cons, List.map_nil]); first | done | rfl | (simp only [List.length_drop, List.length_take]; rfl)) ?_
     with_reducible refine (slices_Index_byte_byte.calls kj2 _ _ t105 (bt a1 0) t108 _ ?side1 ?side2 A17.out).mono ?_
     (case side1 => repeat (first | exact (Kd.V_reads' HO107.out).2.2 | (with_reducible refine Kd.C_alloc ?_ _) | (with_reducible refine Kd.C_drewN ?_ _) | (with_reducible refine Kd.C_drew ?_)))
     (case side2 => exact (Kd.V_reads' HO107.out).2.1)
     rintro e w' ⟨rfl, ⟨nd, rfl⟩⟩
     refine ⟨_, rfl, ?_⟩
     refine hK.out _ _ trivial (fun hHeld => ?_)
     clear hK K
     refine norm_ (a' := ?_) ?_ ?_
     rotate_left
     ·show Act.put _ (some 26) _ = _
      simp only [Act.put, List.setIfInBounds_toArray, List.set_cons_zero, List.set_cons_succ, i64_w, i32_w]
      rfl
     refine pure_ (i := 6) (N := some 6) (v := ?_) (a' := ?_) #[true, true, true, true, true, true, true] rfl rfl (by kernel_rfl) (fun _ _ _ h => h) (Or.inl ⟨by rfl, ?_⟩) ?_ ?_
     rotate_left
     ·intro w'
      go_simp
      with_reducible rfl
     rotate_left
     ·simp only [Act.put, List.setIfInBounds_toArray, List.set_cons_zero, List.set_cons_succ, i64_w, i32_w]
      rfl
     refine done_ (by kernel_rfl) ?_
     try go_wp2
     go_ret2
     exact ⟨by first | rfl | (simp [errW_none, errW_some] <;> rfl) | (simp [*, errW_none, errW_some] <;> rfl), bel HB⟩
    ·rw [if_neg c15] at H
     exact absurd H (by simp)
end Go.Proofs.YtchjgphnglklcaaGreatDoor.Q
end
section
namespace Go.Proofs.YtchjgphnglklcaaGreatDoor.Q
open Go.RowKit Go.Shelf Go.Proofs.YtchjgphnglklcaaGreatDoorW.PrintWords Go.Proofs.YtchjgphnglklcaaGreatDoorW.PrintLast Go.Proofs.YtchjgphnglklcaaGreatDoorW.PrintMore
set_option linter.unusedSectionVars false
theorem tiPlace_l0 (cs : List Int) (c : Int) (hl : cs.length ≤ 1000) : ∀ (l : List Int) (i : Nat), cs.drop i = l → i ≤ cs.length → Ev (fun k => spec_tiPlace.l0 k c cs (cs.length : Int) (i : Int)) (idxL l c i)
 | [], i, hd, hi => by
  have h1 : i = cs.length := by
   have := congrArg List.length hd
   simp at this
   omega
  subst h1
  refine Ev.step (Ev.const rfl) fun k => ?_
  rw [spec_tiPlace.l0, if_neg (by omega)]
  rfl
 | x :: l, i, hd, _ => by
  obtain ⟨h1, h2, h3⟩ := rd_drop hd;have ih := tiPlace_l0 cs c hl l (i + 1) h3 h1
  rw [← wr1 i (by omega)] at ih
  unfold idxL
  by_cases e : x = c
  ·rw [if_pos e]
   refine Ev.step (Ev.const rfl) fun k => ?_
   rw [spec_tiPlace.l0, if_pos (by omega), if_pos (by omega), if_pos (by omega), h2, if_pos e]
  ·rw [if_neg e]
   refine Ev.step ih fun k => ?_
   rw [spec_tiPlace.l0, if_pos (by omega), if_pos (by omega), if_pos (by omega), h2, if_neg e]
theorem tiPlace_ev (cs : List Int) (c w h : Int) (hl : cs.length ≤ 1000) : Ev (fun k => spec_tiPlace.f k w h cs c) (idxL cs c 0) := tiPlace_l0 cs c hl cs 0 rfl (Nat.zero_le _)
theorem index_l0 (cs : List Int) (c : Int) (hl : cs.length ≤ 1000) : ∀ (l : List Int) (i : Nat), cs.drop i = l → i ≤ cs.length → Ev (fun k => slices_Index_byte_byte.l0 k cs c (cs.length : Int) (i : Int)) (idxL l c i)
 | [], i, hd, hi => by
  have h1 : i = cs.length := by
   have := congrArg List.length hd
   simp at this
   omega
  subst h1
  refine Ev.step (Ev.const rfl) fun k => ?_
  rw [slices_Index_byte_byte.l0, if_neg (by omega)]
  rfl
 | x :: l, i, hd, _ => by
  obtain ⟨h1, h2, h3⟩ := rd_drop hd;have ih := index_l0 cs c hl l (i + 1) h3 h1
  rw [← wr1 i (by omega)] at ih
  unfold idxL
  by_cases e : x = c
  ·rw [if_pos e]
   refine Ev.step (Ev.const rfl) fun k => ?_
   rw [slices_Index_byte_byte.l0, if_pos (by omega), if_pos (by omega), if_pos (by omega), h2, if_pos e.symm]
  ·rw [if_neg e]
   refine Ev.step ih fun k => ?_
   rw [slices_Index_byte_byte.l0, if_pos (by omega), if_pos (by omega), if_pos (by omega), h2, if_neg fun e2 => e e2.symm]
theorem index_ev (cs : List Int) (c : Int) (hl : cs.length ≤ 1000) : Ev (fun k => slices_Index_byte_byte.f k cs c) (idxL cs c 0) := index_l0 cs c hl cs 0 rfl (Nat.zero_le _)
def nameOK (s : ByteArray) : Bool := decide ((s.size : Int) = 1 ∧ 97 ≤ bt s 0 ∧ bt s 0 ≤ 102)
theorem isName_eq (a : Int) : impl_isName.f a = some (decide (97 ≤ a ∧ a ≤ 102)) := by
 unfold impl_isName.f
 by_cases h : a ≥ 97
 ·rw [if_pos h]
  congr 1
  exact decide_eq_decide.2 (by omega)
 ·rw [if_neg h, decide_eq_false (by omega)]
theorem tray_named {t : ByteArray} {w h : Int} {cs : List Int} (ht : trayOf t = some (w, h, cs)) : namedOK cs := by
 unfold trayOf trayRows at ht
 split at ht
 case isFalse => cases ht
 rename_i hk
 have hc : ints (rows 47 t.data.toList).flatten = cs := congrArg (fun z => z.2.2) (Option.some.inj ht)
 rw [← hc]
 exact hk.2.2
def cellOfR (t s : ByteArray) : Int × Bool := match trayOf t with
 | none => (0, false)
 | some (_, _, cs) => if nameOK s = true then (idxL cs (bt s 0) 0, decide (idxL cs (bt s 0) 0 ≥ 0)) else (0, false)
theorem cellOf_ev (t s : ByteArray) (ht0 : t.size ≤ 1048576) : Ev (fun k => impl_cellOf.f k t s) (cellOfR t s) := by
 have hno : Ev (fun k => impl_cellOf.j0 k t s true) (0, false) := by
  refine Ev.step (Ev.const (o := some (0, false)) rfl) fun k => ?_
  rw [impl_cellOf.j0, if_pos rfl]
 refine Ev.bind (f := fun k (t101 : Bool) => (if t101 = true then (if (s.size : Int) = 1 then (if 0 < (s.size : Int) then ((impl_isName.f (bt s 0)).bind fun t102 => (impl_cellOf.j0 k t s (!t102))) else (none)) else (impl_cellOf.j0 k t s true)) else (impl_cellOf.j0 k t s true))) (isTray_ev t ht0) ?_
 unfold cellOfR
 rcases ht : trayOf t with _ | ⟨w, h, cs⟩
 ·exact Ev.congr hno fun k => if_neg (by simp)
 ·have hread := tray_read ht
  have hl := form_len ht
  show Ev _ (if nameOK s = true then _ else _)
  by_cases h1 : (s.size : Int) = 1
  ·by_cases h2 : 97 ≤ bt s 0 ∧ bt s 0 ≤ 102
   ·rw [if_pos (show nameOK s = true from decide_eq_true ⟨h1, h2⟩)]
    refine Ev.congr (Ev.step (g := fun k => impl_cellOf.j0 k t s false) (Ev.bind (f := fun _ t108 => some (t108, decide (t108 ≥ 0))) (index_ev cs (bt s 0) (by simpa using Nat.le_trans hl (by decide))) (Ev.const rfl)) fun k => ?_) fun k => ?_
    ·rw [impl_cellOf.j0, if_neg (by decide), hread, Option.bind_some, if_pos (by omega)]
    ·show (if true = true then _ else _) = _
     rw [if_pos rfl, if_pos h1, if_pos (by omega), isName_eq, Option.bind_some, decide_eq_true h2]
     rfl
   ·rw [if_neg (by unfold nameOK; simp only [decide_eq_true_eq]; exact fun h => h2 h.2)]
    refine Ev.congr hno fun k => ?_
    show (if true = true then _ else _) = _
    rw [if_pos rfl, if_pos h1, if_pos (by omega), isName_eq, Option.bind_some, decide_eq_false h2]
    rfl
  ·rw [if_neg (by unfold nameOK; simp only [decide_eq_true_eq]; exact fun h => h1 h.1)]
   refine Ev.congr hno fun k => ?_
   show (if true = true then _ else _) = _
   rw [if_pos rfl, if_neg h1]
theorem name_only {cs : List Int} (hk : namedOK cs) {s : ByteArray} (hs : nameOK s = true) (h0 : 0 ≤ idxL cs (bt s 0) 0) : only cs (bt s 0) (idxL cs (bt s 0) 0) := by
 obtain ⟨_, h1, h2⟩ := of_decide_eq_true hs;obtain ⟨_, a, b⟩ := idxL_at cs cs (bt s 0) 0 rfl h0
 exact named_only hk h1 h2 h0 a b
theorem name_ball {s : ByteArray} (hs : nameOK s = true) : isB (bt s 0) = true := by
 obtain ⟨_, h1, h2⟩ := of_decide_eq_true hs;unfold isB
 exact decide_eq_true (.inr ⟨h1, h2⟩)
theorem idx_only {cs : List Int} {c x : Int} (h : only cs c x) : idxL cs c 0 = x := idxL_only cs cs c x 0 rfl h h.1
end Go.Proofs.YtchjgphnglklcaaGreatDoor.Q
end
section
namespace Go.Proofs.YtchjgphnglklcaaGreatDoor.Q
open Go.RowKit Go.Proofs.YtchjgphnglklcaaGreatDoorW.PrintWords Go.Proofs.YtchjgphnglklcaaGreatDoorW.PrintLast Go.Proofs.YtchjgphnglklcaaGreatDoorW.PrintMore
theorem wrap64_small (n : Nat) (h : n < 1000000) : wrap64 ((n : Int) + 1) = ((n + 1 : Nat) : Int) := by unfold wrap64; omega
end Go.Proofs.YtchjgphnglklcaaGreatDoor.Q
end
section
namespace Go.Proofs.YtchjgphnglklcaaGreatDoor.Q
open Go.RowKit Go.Proofs.YtchjgphnglklcaaGreatDoorW.PrintWords Go.Proofs.YtchjgphnglklcaaGreatDoorW.PrintLast Go.Proofs.YtchjgphnglklcaaGreatDoorW.PrintMore
def PredI (g : Nat) (lb : Array Value) (p : Int → Bool) (zs : List Int) (w : World) : Prop :=
 ∀ W, Below w.heap.size w W → ∀ x ∈ zs, Calls Tryz.prog g (#[.int .i64 x] ++ lb) W fun e W' => e = .returned (.bool (p x)) ∧ Below W.heap.size W W'
set_option maxHeartbeats 4000000 in
set_option maxRecDepth 100000 in
theorem idxI (g : Nat) (lb : Array Value) (eg : ∀ args w, (callFunc g args).run Tryz.prog w = .ok (.enter g args) w) (p : Int → Bool) (A0 : Option Addr) (c0 : Nat) (zs : List Int) (w : World) (hr0 : Kd.C (Kd.int .i64) w A0 zs.length zs) (hn : zs.length ≤ 1000000) (hp : PredI g lb p zs w) :
  Calls Tryz.prog 72 #[.slice A0 zs.length c0, .func (.func g) #[] lb] w fun e w' => ∃ i : Int, e = .returned (.int .i64 i) ∧ (decide (0 ≤ i) = zs.any p) ∧ Below w.heap.size w w' := by
 have HR := Aside0.mk hr0;have HP := Aside0.mk hp;clear hr0 hp
 go_enter Tryz.func72, Tryz.ntmps72
 go_wp2
 go_loopg [5, 8] zs.length (fun gg _ s8 wr => ∃ kk : Nat, s8 = .int .i64 kk ∧ Aside0 (kk ≤ zs.length ∧ zs.length - kk ≤ gg ∧ ∀ j : Nat, j < kk → p (rd zs j) = false) ∧ Aside0 (Below w.heap.size w wr))
 case atStart => exact ⟨0, rfl, ⟨Nat.zero_le _, by omega, fun j hj => absurd hj (Nat.not_lt_zero _)⟩, ⟨Below.refl _ _⟩⟩
 case round =>
  obtain ⟨kk, rfl, HA, HB⟩ := hrel;obtain ⟨hkk, hgg, hno⟩ := HA.out
  by_cases hlt : kk < zs.length
  ·have c1 : decide ((kk : Int) < (zs.length : Int)) = true := decide_eq_true (by omega)
   have p1 : (0 ≤ (kk : Int)) = True := eq_true (by omega);have p2 : ((kk : Int) < (zs.length : Int)) = True := eq_true (by omega);obtain ⟨ad, e1, hx⟩ := Kd.at_int (Kd.C_below HR.out HB.out) (kk : Int) (by omega) (by omega)
   cases e1
   rw [Int.toNat_natCast] at hx
   have hm : rd zs kk ∈ zs := by
    unfold rd
    rw [Int.toNat_natCast, List.getD_eq_getElem?_getD, List.getElem?_eq_getElem hlt]
    exact List.getElem_mem hlt
   have hcall : ∀ W, Below wr.heap.size wr W → Calls Tryz.prog g (#[.int .i64 (rd zs kk)] ++ lb) W fun e W' => e = .returned (.bool (p (rd zs kk))) ∧ Below W.heap.size W W' := fun W hW =>
    HP.out W (below_then HB.out HB.out.size hW) (rd zs kk) hm
   generalize hv : rd zs kk = y at hx hcall hm;have HV := Aside0.mk (show rd zs kk = y ∧ y ∈ zs from ⟨hv, hm⟩);clear hv hm hno hgg hkk
   cases hq : p y with
   | true =>
    rw [hq] at hcall
    go_wp2_with fail
    refine (hcall _ (Below.refl _ _)).mono ?_
    rintro e w' ⟨rfl, hb⟩
    clear hcall
    go_wp2
    go_ret
    refine ⟨_, rfl, ?_, below_then HB.out HB.out.size hb⟩
    rw [decide_eq_true (by omega)]
    exact (List.any_eq_true.2 ⟨y, HV.out.2, hq⟩).symm
   | false =>
    rw [hq] at hcall
    go_wp2_with fail
    refine (hcall _ (Below.refl _ _)).mono ?_
    rintro e w' ⟨rfl, hb⟩
    clear hcall
    go_wp2
    go_roundg (zs.length - (kk + 1))
    case measure => have := HA.out.2.1; omega
    case rel =>
     refine ⟨kk + 1, by first | rfl | rw [wrap64_small kk (by omega)] | simp, ⟨by omega, by omega, fun j hj => ?_⟩, ⟨below_then HB.out HB.out.size hb⟩⟩
     by_cases e : j = kk
     ·rw [e, HV.out.1]
      exact hq
     ·exact HA.out.2.2 j (by omega)
  ·obtain rfl : kk = zs.length := by omega
   have c1 : decide ((zs.length : Int) < (zs.length : Int)) = false := decide_eq_false (by omega)
   go_wp2
   go_ret
   refine ⟨_, rfl, ?_, HB.out⟩
   rw [decide_eq_false (by omega)]
   refine (Bool.eq_false_iff.2 fun h => ?_).symm
   obtain ⟨x, hx, hpx⟩ := List.any_eq_true.1 h;obtain ⟨j, hj, rfl⟩ := List.getElem_of_mem hx;have h2 := hno j hj;unfold rd at h2
   rw [Int.toNat_natCast, List.getD_eq_getElem?_getD, List.getElem?_eq_getElem hj] at h2
   exact absurd hpx (by simpa using h2)
set_option maxHeartbeats 4000000 in
set_option maxRecDepth 100000 in
theorem contI (g : Nat) (lb : Array Value) (eg : ∀ args w, (callFunc g args).run Tryz.prog w = .ok (.enter g args) w) (p : Int → Bool) (A0 : Option Addr) (c0 : Nat) (zs : List Int) (w : World) (hr0 : Kd.C (Kd.int .i64) w A0 zs.length zs) (hn : zs.length ≤ 1000000) (hp : PredI g lb p zs w) :
  Calls Tryz.prog 51 #[.slice A0 zs.length c0, .func (.func g) #[] lb] w fun e w' => e = .returned (.bool (zs.any p)) ∧ Below w.heap.size w w' := by
 have hI := idxI g lb eg p A0 c0 zs w hr0 hn hp;clear eg hp hr0
 go_enter Tryz.func51, Tryz.ntmps51
 go_wp2_with fail
 refine hI.mono ?_
 rintro e w' ⟨i, rfl, hi, hb⟩
 clear hI
 go_wp2
 go_ret
 exact ⟨by rw [← hi]; rfl, hb⟩
end Go.Proofs.YtchjgphnglklcaaGreatDoor.Q
end
section
namespace Go.Proofs.YtchjgphnglklcaaGreatDoor.Q
open Go.RowKit Go.Proofs.YtchjgphnglklcaaGreatDoorW.PrintWords Go.Proofs.YtchjgphnglklcaaGreatDoorW.PrintLast Go.Proofs.YtchjgphnglklcaaGreatDoorW.PrintMore
def impl_areWithin.f (l0 : List Int) (lo hi : Int) : Option Bool := if l0.length ≤ 1000000 then some (!l0.any (fun x => !decide (lo ≤ x ∧ x ≤ hi))) else none
theorem within_val (a lo hi : Int) : impl_within.f a lo hi = some (decide (lo ≤ a ∧ a ≤ hi)) := by
 unfold impl_within.f
 by_cases h : lo ≤ a
 ·rw [if_pos h]
  simp [h]
 ·rw [if_neg h]
  simp [h]
set_option maxHeartbeats 4000000 in
set_option maxRecDepth 100000 in
theorem within_pred (lo hi : Int) (Bl Bh : Nat) (zs : List Int) (w : World) (hl : Bl < w.heap.size) (hh : Bh < w.heap.size) (cl : w.cell? ⟨Bl, 0, none⟩ = some (.int .i64 lo)) (ch : w.cell? ⟨Bh, 0, none⟩ = some (.int .i64 hi)) :
  PredI 52 #[.pointer (some ⟨Bl, 0, none⟩), .pointer (some ⟨Bh, 0, none⟩)] (fun x => !decide (lo ≤ x ∧ x ≤ hi)) zs w := by
 intro W hb x _;have c1 := (hb.cell (p := ⟨Bl, 0, none⟩) hl).trans cl;have c2 := (hb.cell (p := ⟨Bh, 0, none⟩) hh).trans ch
 have hc := fun W => impl_within.calls x lo hi _ W (within_val x lo hi)
 show Calls _ _ _ _ fun e W' => e = .returned (.bool (!decide (lo ≤ x ∧ x ≤ hi))) ∧ _
 generalize decide (lo ≤ x ∧ x ≤ hi) = b at hc ⊢;clear cl ch hb
 show Calls Tryz.prog 52 #[.int .i64 x, .pointer (some ⟨Bl, 0, none⟩), .pointer (some ⟨Bh, 0, none⟩)] W _
 go_enter Tryz.func52, Tryz.ntmps52
 go_wp2_with fail
 refine (hc _).mono ?_
 rintro e w' ⟨rfl, ⟨nd, rfl⟩⟩
 go_wp2
 go_ret
 exact ⟨rfl, pw_below_drewN (Below.refl _ _) _⟩
set_option maxHeartbeats 4000000 in
set_option maxRecDepth 100000 in
theorem impl_areWithin.calls (A0 : Option Addr) (c0 : Nat) (l0 : List Int) (lo hi : Int) (r : Bool) (w : World) (hr0 : Kd.C (Kd.int .i64) w A0 l0.length l0) (hc0 : l0.length ≤ c0) (h : impl_areWithin.f l0 lo hi = some r) :
  Calls Tryz.prog 35 #[.slice A0 l0.length c0, .int .i64 lo, .int .i64 hi] w fun e w' => e = .returned (.bool r) ∧ Below w.heap.size w w' := by
 unfold impl_areWithin.f at h
 split at h
 case isFalse => cases h
 rename_i hn
 obtain rfl := Option.some.inj h;have hb0 : Below w.heap.size w ((w.alloc (.cells #[.int .i64 lo] 3)).alloc (.cells #[.int .i64 hi] 3)) := ((Below.refl _ w).alloc (Nat.le_refl _) _).alloc (by simp) _;have h1 := Boxed.new w 3 (.int .i64 lo);have h2 := Boxed.new (w.alloc (.cells #[.int .i64 lo] 3)) 3 (.int .i64 hi);have hp := within_pred lo hi w.heap.size (w.heap.size + 1) l0 ((w.alloc (.cells #[.int .i64 lo] 3)).alloc (.cells #[.int .i64 hi] 3)) (by simp; omega) (by simp) (h1.alloc _).cell (by rw [World.size_alloc] at h2; exact h2.cell);have hcall := contI 52 #[.pointer (some ⟨w.heap.size, 0, none⟩), .pointer (some ⟨w.heap.size + 1, 0, none⟩)] (enters_of Tryz.func52 (by kernel_rfl) rfl) _ A0 c0 l0 _ (Kd.C_below hr0 hb0) hn hp;clear hp h1 h2 hr0 h;generalize l0.any (fun x => !decide (lo ≤ x ∧ x ≤ hi)) = b at hcall ⊢
 go_enter Tryz.func35, Tryz.ntmps35
 go_wp2_with fail
 refine hcall.mono ?_
 rintro e w' ⟨rfl, hb⟩
 clear hcall
 go_wp2
 go_ret
 exact ⟨rfl, below_then hb0 hb0.size hb⟩
end Go.Proofs.YtchjgphnglklcaaGreatDoor.Q
end
section
namespace Go.Proofs.YtchjgphnglklcaaGreatDoor.Q
open Go.RowKit Go.Proofs.YtchjgphnglklcaaGreatDoorW.PrintWords Go.Proofs.YtchjgphnglklcaaGreatDoorW.PrintLast Go.Proofs.YtchjgphnglklcaaGreatDoorW.PrintMore
attribute [local go_sem] max2_int min2_int max_two min_two max_three min_three max_four min_four
set_option linter.unusedVariables false
set_option linter.unusedSimpArgs false
def impl_isNumber.f (k : Nat) (a0 : ByteArray) (l1 : List Int) : Option (Bool) := (impl_IsTray.f k a0).bind fun t101 => (if t101 = true then ((impl_read.f a0).bind fun bt102 => ((impl_areWithin.f l1 0 (wrap64 ((bt102.2.2.length : Int) - 1))).bind fun t107 => (some t107))) else (some false))
set_option maxHeartbeats 8000000 in
set_option maxRecDepth 100000 in
theorem impl_isNumber.calls (k : Nat) (a0 : ByteArray) (A1 : Option Addr) (c1 : Nat) (l1 : List Int) (r : Bool) (w : World) (hG : GoodW w) (hr1 : Kd.C (Kd.int .i64) w A1 l1.length l1) (hc1 : l1.length ≤ c1) (h : impl_isNumber.f k a0 l1 = some r) :
  Calls Tryz.prog 22 #[.string a0, .slice A1 l1.length c1] w fun e w' => e = .returned (.bool r) ∧ Below w.heap.size w w' := by
 have hu64 := Tryz.underlying64
 have hfd64_2 : ∀ (a0 : Int) (a1 : Int) (A2 : Option Addr) (n2 c2 : Nat) (W : World), (Instr.field 64 (.agg #[.int .i64 a0, .int .i64 a1, .slice A2 n2 c2]) 2).run Tryz.prog W = .ok (.slice A2 n2 c2) W := fun _ _ _ _ _ _ => by kernel_rfl
 have HR1 := Aside0.mk hr1;have HC1 := Aside0.mk hc1;clear hr1 hc1;have HG := Aside0.mk hG;clear hG;have HB := Aside0.mk (Below.refl w.heap.size w);have H : ((impl_IsTray.f k a0).bind fun t101 => (if t101 = true then ((impl_read.f a0).bind fun bt102 => ((impl_areWithin.f l1 0 (wrap64 ((bt102.2.2.length : Int) - 1))).bind fun t107 => (some t107))) else (some false))) = some r := h;clear h;replace H := Option.bind_eq_some_iff.mp H;obtain ⟨t101, A30, H⟩ := H;replace H : (if t101 = true then ((impl_read.f a0).bind fun bt102 => ((impl_areWithin.f l1 0 (wrap64 ((bt102.2.2.length : Int) - 1))).bind fun t107 => (some t107))) else (some false)) = some r := H;have A3 := Aside0.mk A30;clear A30
 by_cases c4 : t101 = true
 ·subst c4
  have H1 : ((impl_read.f a0).bind fun bt102 => ((impl_areWithin.f l1 0 (wrap64 ((bt102.2.2.length : Int) - 1))).bind fun t107 => (some t107))) = some r := by rw [if_pos rfl] at H; exact H
  clear H;have H := H1;clear H1;replace H := Option.bind_eq_some_iff.mp H;obtain ⟨⟨t102, t103, t104⟩, A50, H⟩ := H;replace H : ((impl_areWithin.f l1 0 (wrap64 ((t104.length : Int) - 1))).bind fun t107 => (some t107)) = some r := H;have A5 := Aside0.mk A50;clear A50;replace H := Option.bind_eq_some_iff.mp H;obtain ⟨t107, A60, H⟩ := H;replace H : (some t107) = some r := H;have A6 := Aside0.mk A60;clear A60;obtain rfl := Option.some.inj H
  go_enter Tryz.func22, Tryz.ntmps22
  go_wp2_with (first | ((with_reducible refine gate_callee (f := 27) rfl ?_); refine gcall (some 6) Tryz.func27 #[.string a0] rfl ?_; (with_reducible refine (impl_IsTray.calls k a0 true _ ?side1 A3.out).mono ?_); (case side1 => (refine GoodW.below HG.out ?_); exact bel HB); rintro e w7 ⟨rfl, hb⟩; refine ⟨_, rfl, ?_⟩; have n0_ := Aside0.mk (below_step (bel HB) hb); clear HB; have HB := n0_; clear n0_; (try clear hb); (try clear hb2); (try clear hk); (try clear hi)) | (go_at_call 36; (with_reducible refine (impl_read.calls a0 t102 t103 t104 _ ?side1 A5.out).mono ?_); (case side1 => (refine GoodW.below HG.out ?_); exact bel HB); rintro e w8 ⟨v105, rfl, ho0, hb⟩; have n0_ := Aside0.mk (Kd.V_lower (Kd.V_mono (ok' := fun k_ => True) ho0 (fun k_ hk_ => trivial)) (below_size (bel HB))); have n1_ := Aside0.mk (below_step (bel HB) hb); clear HB; have HO106 := n0_; have HB := n1_; clear n0_ n1_; (try clear hb); (try clear hb2); (try clear hk); (try clear hi); (try clear ho0); obtain ⟨Ao9, co9, eo9⟩ := Kd.V_slice HO106.out; subst eo9) | (go_at_call 35; (with_reducible refine (impl_areWithin.calls _ _ l1 0 (wrap64 ((t104.length : Int) - 1)) t107 _ ?side1 ?side2 A6.out).mono ?_); (case side1 => repeat (first | exact (Kd.C_below HR1.out HB.out) | (with_reducible refine Kd.C_alloc ?_ _) | (with_reducible refine Kd.C_drewN ?_ _) | (with_reducible refine Kd.C_drew ?_))); (case side2 => exact HC1.out); rintro e w10 ⟨rfl, hb⟩; have n0_ := Aside0.mk (Kd.V_below (by (with_reducible repeat (first | apply Kd.V_alloc | apply Kd.V_drewN | apply Kd.V_drew)); (first | exact HO106.out | exact R_any HO106.out)) hb); have n1_ := Aside0.mk (below_step (bel HB) hb); clear HO106; clear HB; have HO106 := n0_; have HB := n1_; clear n0_ n1_; (try clear hb); (try clear hb2); (try clear hk); (try clear hi)))
  go_ret
  exact ⟨by first | rfl | (simp [errW_none, errW_some] <;> rfl) | (simp [*, errW_none, errW_some] <;> rfl), bel HB⟩
 ·replace c4 := Bool.eq_false_iff.mpr c4
  subst c4
  have H1 : (some false) = some r := by rw [if_neg (show ¬ (false = true) by decide)] at H; exact H
  clear H;have H := H1;clear H1;obtain rfl := Option.some.inj H
  go_enter Tryz.func22, Tryz.ntmps22
  go_wp2_with (first | ((with_reducible refine gate_callee (f := 27) rfl ?_); refine gcall (some 6) Tryz.func27 #[.string a0] rfl ?_; (with_reducible refine (impl_IsTray.calls k a0 false _ ?side1 A3.out).mono ?_); (case side1 => (refine GoodW.below HG.out ?_); exact bel HB); rintro e w11 ⟨rfl, hb⟩; refine ⟨_, rfl, ?_⟩; have n0_ := Aside0.mk (below_step (bel HB) hb); clear HB; have HB := n0_; clear n0_; (try clear hb); (try clear hb2); (try clear hk); (try clear hi)))
  go_ret
  exact ⟨by first | rfl | (simp [errW_none, errW_some] <;> rfl) | (simp [*, errW_none, errW_some] <;> rfl), bel HB⟩
end Go.Proofs.YtchjgphnglklcaaGreatDoor.Q
end
section
namespace Go.Proofs.YtchjgphnglklcaaGreatDoor.Q
set_option linter.unusedSectionVars false
open Go.RowKit Go.Proofs.YtchjgphnglklcaaGreatDoorW.PrintWords Go.Proofs.YtchjgphnglklcaaGreatDoorW.PrintLast Go.Proofs.YtchjgphnglklcaaGreatDoorW.PrintMore
def inCells (cs : List Int) (a : Int) : Prop := 0 ≤ a ∧ a < (cs.length : Int)
instance (cs : List Int) (a : Int) : Decidable (inCells cs a) := inferInstanceAs (Decidable (_ ∧ _))
theorem inCells_eq (cs : List Int) (a : Int) : decide (0 ≤ a ∧ a ≤ (cs.length : Int) - 1) = decide (inCells cs a) := decide_eq_decide.2 (by unfold inCells; omega)
def allCells (cs : List Int) (l : List Int) : Bool := l.all fun a => decide (inCells cs a)
theorem within_all (cs : List Int) (l : List Int) (hl : l.length ≤ 1000000) : impl_areWithin.f l 0 ((cs.length : Int) - 1) = some (allCells cs l) := by
 unfold impl_areWithin.f allCells
 rw [if_pos hl]
 congr 1
 induction l with
 | nil => rfl
 | cons a l ih =>
  rw [List.any_cons, List.all_cons, Bool.not_or, ih (by simp at hl; omega), Bool.not_not, inCells_eq]
theorem isNumber_ev (s : ByteArray) (hs : s.size ≤ 1048576) (l : List Int) (hl : l.length ≤ 1000000) : Ev (fun k => impl_isNumber.f k s l) (match trayOf s with | none => false | some (_, _, cs) => allCells cs l) := by
 refine Ev.bind (f := fun _ (t101 : Bool) => (if t101 = true then ((impl_read.f s).bind fun bt102 => ((impl_areWithin.f l 0 (wrap64 ((bt102.2.2.length : Int) - 1))).bind fun t107 => (some t107))) else (some false))) (isTray_ev s hs) (Ev.const ?_)
 rcases ht : trayOf s with _ | ⟨w, h, cs⟩
 ·rfl
 ·have hread : impl_read.f s = trayOf s := ((trayOf_row s).resolve_left (by rw [ht]; exact fun e => nomatch e)).2
  have h1 : cs.length ≤ 36 := form_len (t := (w, h, cs)) ht;have hwl : wrap64 ((cs.length : Int) - 1) = (cs.length : Int) - 1 := w64 (by omega) (by omega)
  show (if true = true then _ else _) = _
  rw [if_pos rfl, hread, ht]
  show (impl_areWithin.f l 0 (wrap64 ((cs.length : Int) - 1))).bind _ = _
  rw [hwl, within_all cs l hl]
  rfl
end Go.Proofs.YtchjgphnglklcaaGreatDoor.Q
end
section
namespace Go.Proofs.YtchjgphnglklcaaGreatDoor.Q
open Go.RowKit Go.Proofs.YtchjgphnglklcaaGreatDoorW.PrintWords Go.Proofs.YtchjgphnglklcaaGreatDoorW.PrintLast Go.Proofs.YtchjgphnglklcaaGreatDoorW.PrintMore
attribute [local go_sem] max2_int min2_int max_two min_two max_three min_three max_four min_four
set_option linter.unusedVariables false
set_option linter.unusedSimpArgs false
def slices_Index_int_int.l0 : Nat → List Int → Int → Int → Int → Option (Int)
 | 0, _, _, _, _ => none
 | k + 1, x0, x1, x7, x8 => if x8 < x7 then (if 0 ≤ x8 then (if x8 < (x0.length : Int) then (if x1 = (rd x0 x8) then (some x8) else (slices_Index_int_int.l0 k x0 x1 x7 (wrap64 (x8 + 1)))) else (none)) else (none)) else (some (-1))
def slices_Index_int_int.f (k : Nat) (l0 : List Int) (a1 : Int) : Option (Int) := slices_Index_int_int.l0 k l0 a1 (l0.length : Int) 0
set_option maxHeartbeats 8000000 in
set_option maxRecDepth 100000 in
theorem slices_Index_int_int.calls (k : Nat) (A0 : Option Addr) (c0 : Nat) (l0 : List Int) (a1 : Int) (r : Int) (w : World) (hr0 : Kd.C (Kd.int .i64) w A0 l0.length l0) (hc0 : l0.length ≤ c0) (h : slices_Index_int_int.f k l0 a1 = some r) :
  Calls Tryz.prog 23 #[.slice A0 l0.length c0, .int .i64 a1] w fun e w' => e = .returned (.int .i64 r) ∧ Drawn0 w w' := by
 have HR0 := Aside0.mk hr0;have HC0 := Aside0.mk hc0;clear hr0 hc0;have H : (slices_Index_int_int.l0 k l0 a1 (l0.length : Int) 0) = some r := h;clear h;have H' := Aside0.mk H;clear H
 go_enter Tryz.func23, Tryz.ntmps23
 go_wp2
 go_loopg [8] k (fun kq v8 w' => ∃ (x8_1 : Int), v8 = .int .i64 x8_1 ∧ Aside0 (slices_Index_int_int.l0 kq l0 a1 (l0.length : Int) x8_1 = some r) ∧ Aside0 (kq ≤ k) ∧ Drawn0 w w')
 case atStart => exact ⟨(0), (by first | rfl | (simp; done) | (simp [*]; done)), H', ⟨Nat.le_refl _⟩, by repeat (first | exact Drawn0.refl _ | apply Drawn0.step)⟩
 case round =>
  clear H'
  try clear c2
  try clear p2
  obtain ⟨x8_1, rfl, HA, HK1, ⟨m1, rfl⟩⟩ := hrel
  cases gk with
  | zero => exact absurd HA.out (by simp [slices_Index_int_int.l0])
  | succ k1 =>
   have H := HA.out;clear HA
   simp only [slices_Index_int_int.l0] at H
   by_cases c3 : x8_1 < (l0.length : Int)
   ·rw [if_pos c3] at H
    have c3b0 : decide (x8_1 < (l0.length : Int)) = true := decide_eq_true c3;clear c3
    by_cases c4 : 0 ≤ x8_1
    ·rw [if_pos c4] at H
     have c4b0 : decide (0 ≤ x8_1) = true := decide_eq_true c4;clear c4
     by_cases c5 : x8_1 < (l0.length : Int)
     ·rw [if_pos c5] at H
      have c5b0 : decide (x8_1 < (l0.length : Int)) = true := decide_eq_true c5;clear c5
      by_cases c6 : a1 = (rd l0 x8_1)
      ·rw [if_pos c6] at H
       have c6b0 : (a1 == (rd l0 x8_1)) = true := beq_iff_eq.mpr c6;have c6b1 : (a1 != (rd l0 x8_1)) = false := bne_eq_false_iff_eq.mpr c6;clear c6;obtain rfl := Option.some.inj H;have p101 : 0 ≤ (x8_1 : Int) := of_decide_eq_true (by first | (with_reducible assumption) | assumption);have q101 : x8_1 < (l0.length : Int) := of_decide_eq_true (by first | (with_reducible assumption) | assumption);obtain ⟨ad101, e101, hx101_0⟩ := Kd.at_int HR0.out x8_1 p101 q101
       cases e101
       replace p101 := eq_true p101;replace q101 := eq_true q101
       go_wp2
       go_ret
       exact ⟨by first | rfl | (simp; done) | (simp [*]; done), by repeat (first | exact Drawn0.refl _ | apply Drawn0.step)⟩
      ·rw [if_neg c6] at H
       have c6b0 : (a1 == (rd l0 x8_1)) = false := beq_eq_false_iff_ne.mpr c6;have c6b1 : (a1 != (rd l0 x8_1)) = true := bne_iff_ne.mpr c6;have H' := Aside0.mk H;clear H;have p101 : 0 ≤ (x8_1 : Int) := of_decide_eq_true (by first | (with_reducible assumption) | assumption);have q101 : x8_1 < (l0.length : Int) := of_decide_eq_true (by first | (with_reducible assumption) | assumption);obtain ⟨ad101, e101, hx101_0⟩ := Kd.at_int HR0.out x8_1 p101 q101
       cases e101
       replace p101 := eq_true p101;replace q101 := eq_true q101
       go_wp2
       go_roundg k1
       case measure => have := HK1.out; omega
       case rel => exact ⟨(wrap64 (x8_1 + 1)), (by first | rfl | (simp; done) | (simp [*]; done)), H', ⟨by have := HK1.out; omega⟩, by repeat (first | exact Drawn0.refl _ | apply Drawn0.step)⟩
     ·rw [if_neg c5] at H
      exact absurd H (by simp)
    ·rw [if_neg c4] at H
     exact absurd H (by simp)
   ·rw [if_neg c3] at H
    have c3b0 : decide (x8_1 < (l0.length : Int)) = false := decide_eq_false c3;clear c3;obtain rfl := Option.some.inj H
    go_wp2
    go_ret
    exact ⟨by first | rfl | (simp; done) | (simp [*]; done), by repeat (first | exact Drawn0.refl _ | apply Drawn0.step)⟩
end Go.Proofs.YtchjgphnglklcaaGreatDoor.Q
end
section
namespace Go.Proofs.YtchjgphnglklcaaGreatDoor.Q
open Go.RowKit Go.Proofs.YtchjgphnglklcaaGreatDoorW.PrintWords Go.Proofs.YtchjgphnglklcaaGreatDoorW.PrintLast Go.Proofs.YtchjgphnglklcaaGreatDoorW.PrintMore
attribute [local go_sem] max2_int min2_int max_two min_two max_three min_three max_four min_four
set_option linter.unusedVariables false
set_option linter.unusedSimpArgs false
def impl_reach_cells.l0 : Nat → ByteArray → List Int → List ByteArray → Int → Int → Option (List Int)
 | 0, _, _, _, _, _ => none
 | k + 1, x1, x5, x10, x11, x12 => if x12 < x11 then (if 0 ≤ x12 then (if x12 < (x10.length : Int) then ((impl_read.f (rdOf ByteArray.empty x10 x12)).bind fun bt106 => (if 0 < (x1.size : Int) then ((slices_Index_byte_byte.f k bt106.2.2 (bt x1 0)).bind fun t111 => (if x5.length < 17592186044416 then (impl_reach_cells.l0 k x1 (x5 ++ [t111]) x10 x11 (wrap64 (x12 + 1))) else (none))) else (none))) else (none)) else (none)) else (some x5)
def impl_reach_cells.f (k : Nat) (l0_0 : List ByteArray) (l0_1 : List Int) (l0_2 : List (List Int)) (l0_3 : List ByteArray) (a1 : ByteArray) : Option (List Int) := impl_reach_cells.l0 k a1 (([] : List Int)) l0_0 (l0_0.length : Int) 0
def impl_reach_cells.T5 : Bool × List (List Nat × List Nat) := (true, [([], []), ([], []), ([1], [1]), ([2], [2]), ([], []), ([4], [4]), ([3, 5, 2], [3, 5]), ([6], [6]), ([0, 7, 6], [0, 7]), ([8, 8, 0, 1, 2, 3, 4, 5, 6, 7, 8], [0, 8])])
def impl_reach_cells.B5 : List Nat := [0, 0, 2, 6, 0, 16, 62, 126, 255, 511]
theorem impl_reach_cells.tab5 : rtab .any (opsOf Tryz.f24 5) = impl_reach_cells.T5 := by kernel_rfl
theorem impl_reach_cells.bits5 : waitsOk impl_reach_cells.T5.2 impl_reach_cells.B5 = true := by kernel_rfl
set_option maxHeartbeats 8000000 in
set_option maxRecDepth 100000 in
theorem impl_reach_cells.calls (k : Nat) (A0_0 : Option Addr) (c0_0 : Nat) (l0_0 : List ByteArray) (A0_1 : Option Addr) (c0_1 : Nat) (l0_1 : List Int) (A0_2 : Option Addr) (c0_2 : Nat) (l0_2 : List (List Int)) (A0_3 : Option Addr) (c0_3 : Nat) (l0_3 : List ByteArray) (a1 : ByteArray) (r : List Int) (w : World) (hG : GoodW w) (hr0_0 : Kd.C Kd.string w A0_0 l0_0.length l0_0) (hc0_0 : l0_0.length ≤ c0_0) (hr0_1 : Kd.C (Kd.int .i64) w A0_1 l0_1.length l0_1) (hc0_1 : l0_1.length ≤ c0_1) (hr0_2 : Kd.C (Kd.slice 3 (Kd.int .i64)) w A0_2 l0_2.length l0_2) (hc0_2 : l0_2.length ≤ c0_2) (hr0_3 : Kd.C Kd.string w A0_3 l0_3.length l0_3) (hc0_3 : l0_3.length ≤ c0_3) (h : impl_reach_cells.f k l0_0 l0_1 l0_2 l0_3 a1 = some r) :
  Calls Tryz.prog 24 #[.agg #[.slice A0_0 l0_0.length c0_0, .slice A0_1 l0_1.length c0_1, .slice A0_2 l0_2.length c0_2, .slice A0_3 l0_3.length c0_3], .string a1] w fun e w' => ∃ v0_ : Value, e = .returned (v0_) ∧ Kd.R (Kd.int .i64) 3 w' w.heap.size (fun _ => True) v0_ r ∧ Below w.heap.size w w' := by
 have hu46 := Tryz.underlying46;have hu64 := Tryz.underlying64
 have hfd64_2 : ∀ (a0 : Int) (a1 : Int) (A2 : Option Addr) (n2 c2 : Nat) (W : World), (Instr.field 64 (.agg #[.int .i64 a0, .int .i64 a1, .slice A2 n2 c2]) 2).run Tryz.prog W = .ok (.slice A2 n2 c2) W := fun _ _ _ _ _ _ => by kernel_rfl
 have HR0_0 := Aside0.mk hr0_0;have HC0_0 := Aside0.mk hc0_0;clear hr0_0 hc0_0;have HR0_1 := Aside0.mk hr0_1;have HC0_1 := Aside0.mk hc0_1;clear hr0_1 hc0_1;have HR0_2 := Aside0.mk hr0_2;have HC0_2 := Aside0.mk hc0_2;clear hr0_2 hc0_2;have HR0_3 := Aside0.mk hr0_3;have HC0_3 := Aside0.mk hc0_3;clear hr0_3 hc0_3;have HG := Aside0.mk hG;clear hG;have HB := Aside0.mk (Below.refl w.heap.size w);have H : (impl_reach_cells.l0 k a1 (([] : List Int)) l0_0 (l0_0.length : Int) 0) = some r := h;clear h;obtain ⟨y102, hy102⟩ : ∃ y_ : List Int, y_ = (([] : List Int)) := ⟨_, rfl⟩;replace H : (impl_reach_cells.l0 k a1 y102 l0_0 (l0_0.length : Int) 0) = some r := rH hy102 H;have Ny102 := Aside0.mk hy102;clear hy102;have H' := Aside0.mk H;clear H
 go_enter Tryz.func24, Tryz.ntmps24
 go_wp2_with (first | ((with_reducible refine gate_dst (N := 2) rfl ?_); refine boxE (N := 2) (cs := #[.slice A0_0 l0_0.length c0_0, .slice A0_1 l0_1.length c0_1, .slice A0_2 l0_2.length c0_2, .slice A0_3 l0_3.length c0_3]) (t := 46) ?_; intro gb101 hg w3 hbox hb; have n0_ := Aside0.mk (below_step (bel HB) hb); have n1_ := Aside0.mk (hbox); have n2_ := Aside0.mk (gsz hg (bel HB)); have n3_ := Aside0.mk (gsz hg (bel HB)); clear HB; have HB := n0_; have BK101 := n1_; have GW101 := n2_; have GE101 := n3_; clear n0_ n1_ n2_ n3_; clear hb hbox hg) | ((with_reducible refine gate_dst (N := 8) rfl ?_); refine R_litG (Kd.int .i64) _ 3 ?hg (N := 8) ?hd (xs := ([] : List Int)) (inner := []) (ok := fun _ => True) (okp := fun _ => True) ?hr ?hp (fun _ hk => hk) trivial (Below.refl _ _) (Nat.le_refl _) (by simp) ?_; (case hd => rfl); (case hg => first | rfl | decide | (simp [Region.wanted, yielded]; done) | (go_simp; done)); (case hr => first | (go_simp; done) | (go_simp; rfl)); (case hp => exact (Reps.none _ _)); intro v103 w4 ho5 hb hg_ hnew_; clear hg_ hnew_; (first | rw [← Ny102.out] at ho5 | (simp only [Int.reduceToNat] at ho5; rw [← Ny102.out] at ho5)); have n0_ := Aside0.mk (Kd.R_lower ho5 (below_size (bel HB))); have n1_ := Aside0.mk (blk_below (g := gb101) (o := .cells #[.slice A0_0 l0_0.length c0_0, .slice A0_1 l0_1.length c0_1, .slice A0_2 l0_2.length c0_2, .slice A0_3 l0_3.length c0_3] 46 (0, 0)) blc hb); have n2_ := Aside0.mk (below_step (bel HB) hb); clear BK101; clear HB; have HO104 := n0_; have BK101 := n1_; have HB := n2_; clear n0_ n1_ n2_; clear hb ho5; have hcz6_0 : w4.cell? ⟨gb101, 0, none⟩ = some (.slice A0_0 l0_0.length c0_0) := (blk_cell BK101.out 0).trans rfl; have hcz6_1 : w4.cell? ⟨gb101, 1, none⟩ = some (.slice A0_1 l0_1.length c0_1) := (blk_cell BK101.out 1).trans rfl; have hcz6_2 : w4.cell? ⟨gb101, 2, none⟩ = some (.slice A0_2 l0_2.length c0_2) := (blk_cell BK101.out 2).trans rfl; have hcz6_3 : w4.cell? ⟨gb101, 3, none⟩ = some (.slice A0_3 l0_3.length c0_3) := (blk_cell BK101.out 3).trans rfl; have hfz6_0 := blk_frozen BK101.out 0; have hfz6_1 := blk_frozen BK101.out 1; have hfz6_2 := blk_frozen BK101.out 2; have hfz6_3 := blk_frozen BK101.out 3))
 go_loopg [5, 12] k (fun kq v5 v12 w' => ∃ (x5_1 : List Int) (x12_1 : Int), v12 = .int .i64 x12_1 ∧ Aside0 (impl_reach_cells.l0 kq a1 x5_1 l0_0 (l0_0.length : Int) x12_1 = some r) ∧ Aside0 (kq ≤ k) ∧ Aside0 (Kd.R (Kd.int .i64) 3 w' w.heap.size (fun _ => True) v5 x5_1) ∧ Aside0 (w'.heap[gb101]? = some (.cells #[(.slice A0_0 l0_0.length c0_0), (.slice A0_1 l0_1.length c0_1), (.slice A0_2 l0_2.length c0_2), (.slice A0_3 l0_3.length c0_3)] 46 (0, 0))) ∧ Aside0 (Below w.heap.size w w'))
 case atStart => exact ⟨(y102), (0), (by first | rfl | (simp; done) | (simp [*]; done)), H', ⟨Nat.le_refl _⟩, ⟨rch HO104⟩, ⟨blc⟩, ⟨bel HB⟩⟩
 case round =>
  clear H'
  try clear c2
  try clear p2
  try clear hcz6_0
  try clear hcz6_1
  try clear hcz6_2
  try clear hcz6_3
  try clear hfz6_0
  try clear hfz6_1
  try clear hfz6_2
  try clear hfz6_3
  obtain ⟨x5_1, x12_1, rfl, HA, HK1, HO_5, BK101, HB⟩ := hrel
  cases gk with
  | zero => exact absurd HA.out (by simp [impl_reach_cells.l0])
  | succ k1 =>
   have H := HA.out;clear HA
   simp only [impl_reach_cells.l0] at H
   by_cases c7 : x12_1 < (l0_0.length : Int)
   ·rw [if_pos c7] at H
    have c7b0 : decide (x12_1 < (l0_0.length : Int)) = true := decide_eq_true c7;clear c7
    by_cases c8 : 0 ≤ x12_1
    ·rw [if_pos c8] at H
     have c8b0 : decide (0 ≤ x12_1) = true := decide_eq_true c8;clear c8
     by_cases c9 : x12_1 < (l0_0.length : Int)
     ·rw [if_pos c9] at H
      have c9b0 : decide (x12_1 < (l0_0.length : Int)) = true := decide_eq_true c9;clear c9;replace H := Option.bind_eq_some_iff.mp H;obtain ⟨⟨t106, t107, t108⟩, A100, H⟩ := H;replace H : (if 0 < (a1.size : Int) then ((slices_Index_byte_byte.f k1 t108 (bt a1 0)).bind fun t111 => (if x5_1.length < 17592186044416 then (impl_reach_cells.l0 k1 a1 (x5_1 ++ [t111]) l0_0 (l0_0.length : Int) (wrap64 (x12_1 + 1))) else (none))) else (none)) = some r := H;have A10 := Aside0.mk A100;clear A100
      by_cases c11 : 0 < (a1.size : Int)
      ·rw [if_pos c11] at H
       have c11b0 : decide (0 < (a1.size : Int)) = true := decide_eq_true c11;have c11b1 : decide (0 < a1.size) = true := decide_eq_true (by omega);clear c11;replace H := Option.bind_eq_some_iff.mp H;obtain ⟨t111, A130, H⟩ := H;replace H : (if x5_1.length < 17592186044416 then (impl_reach_cells.l0 k1 a1 (x5_1 ++ [t111]) l0_0 (l0_0.length : Int) (wrap64 (x12_1 + 1))) else (none)) = some r := H;have A13 := Aside0.mk A130;clear A130
       by_cases c14 : x5_1.length < 17592186044416
       ·rw [if_pos c14] at H
        have LMc14 := Aside0.mk c14;clear c14;obtain ⟨y112, hy112⟩ : ∃ y_ : List Int, y_ = (x5_1 ++ [t111]) := ⟨_, rfl⟩;replace H : (impl_reach_cells.l0 k1 a1 y112 l0_0 (l0_0.length : Int) (wrap64 (x12_1 + 1))) = some r := rH hy112 H;have Ny112 := Aside0.mk hy112;clear hy112;have H' := Aside0.mk H;clear H;have p105 : 0 ≤ (x12_1 : Int) := of_decide_eq_true (by first | (with_reducible assumption) | assumption);have q105 : x12_1 < (l0_0.length : Int) := of_decide_eq_true (by first | (with_reducible assumption) | assumption);obtain ⟨ad105, e105, hx105_0⟩ := Kd.at_string HR0_0.out x12_1 p105 q105
        cases e105
        (try replace hx105_0 := (HB.out.cell (World.block_lt_of_cell? w _ hx105_0)).trans hx105_0)
        replace p105 := eq_true p105;replace q105 := eq_true q105
        try go_wp2
        have n0_ := Aside0.mk (Kd.R_drew HO_5.out);have n1_ := Aside0.mk (blk_drew BK101.out);have n2_ := Aside0.mk (below_drew1 HB.out);clear HO_5;clear BK101;clear HB;have HO_5 := n0_;have BK101 := n1_;have HB := n2_;clear n0_ n1_ n2_;have p12 : 0 ≤ (0 : Int) := (by omega);have q12 : 0 < a1.size := (by have : (0 : Int) < (a1.size : Int) := of_decide_eq_true (by first | (with_reducible assumption) | assumption); omega);have hx12 : ∀ h : 0 < a1.size, ((a1[0]'h).toNat : Int) = bt a1 0 := bt_at a1 0;clear p12;have qi12 : (0 < (a1.size : Int)) = True := eq_true (of_decide_eq_true (by first | (with_reducible assumption) | assumption));replace q12 := eq_true q12
        refine start_ (n := 10) (S := fun w' => True) (ds := []) #[false, false, false, false, false, false, false, false, false, false] (by kernel_rfl) rfl rfl trivial (fun hHeld => ?_); refine with_tabW impl_reach_cells.tab5 impl_reach_cells.bits5 (fun HT_ HW_ => ?_)
        generalize wr.drew = w15 at HO_5 BK101 HB hHeld ⊢
        refine pure_ (i := 0) (N := some 16) (v := ?_) (a' := ?_) #[true, false, false, false, false, false, false, false, false, false] rfl rfl (any_of HT_.out (by kernel_rfl)) (fun _ _ _ h => h) (Or.inl ⟨by rfl, ?_⟩) ?_ ?_
        rotate_left
        ·intro w'
         go_simp
         with_reducible rfl
        rotate_left
        ·simp only [Act.put, List.setIfInBounds_toArray, List.set_cons_zero, List.set_cons_succ, i64_w, i32_w]
         rfl
        refine pure_ (i := 1) (N := some 17) (v := ?_) (a' := ?_) #[true, true, false, false, false, false, false, false, false, false] rfl rfl (any_of HT_.out (by kernel_rfl)) (fun _ _ _ h => h) (Or.inl ⟨by rfl, ?_⟩) ?_ ?_
        rotate_left
        ·intro w'
         go_simp
         with_reducible rfl
        rotate_left
        ·simp only [Act.put, List.setIfInBounds_toArray, List.set_cons_zero, List.set_cons_succ, i64_w, i32_w]
         rfl
        refine pure_ (i := 4) (N := some 20) (v := ?_) (a' := ?_) #[true, true, false, false, true, false, false, false, false, false] rfl rfl (any_of HT_.out (by kernel_rfl)) (fun _ _ _ h => h) (Or.inl ⟨by rfl, ?_⟩) ?_ ?_
        rotate_left
        ·intro w'
         go_simp
         with_reducible rfl
        rotate_left
        ·simp only [Act.put, List.setIfInBounds_toArray, List.set_cons_zero, List.set_cons_succ, i64_w, i32_w]
         rfl
        refine take_ (i := 5) (N := some 21) (v := ?_) (a' := ?_) #[true, true, false, false, true, true, false, false, false, false] rfl rfl (take_ofW HT_.out HW_.out (by kernel_rfl)) (fun _ _ _ h => h) (Or.inl ⟨by rfl, ?_⟩) hHeld ?_ ?_
        rotate_left
        ·intro w' _
         go_simp
         with_reducible rfl
        rotate_left
        ·simp only [Act.put, List.setIfInBounds_toArray, List.set_cons_zero, List.set_cons_succ, i64_w, i32_w]
         rfl
        refine one_ (i := 2) (N := some 18) #[true, true, true, false, true, true, false, false, false, false] rfl rfl (one_of HT_.out (by kernel_rfl)) (by decide) (fun K hK => ?_)
        refine goes_ Tryz.func36 (by kernel_rfl) rfl #[.string (rdOf ByteArray.empty l0_0 x12_1)] (by rfl) rfl rfl (by (try simp only [List.map_toArray, List.map_cons, List.map_nil]); first | done | rfl | (simp only [List.length_drop, List.length_take]; rfl)) ?_
        with_reducible refine (impl_read.calls (rdOf ByteArray.empty l0_0 x12_1) t106 t107 t108 _ ?side1 A10.out).mono ?_
        (case side1 => (refine GoodW.below HG.out ?_); exact bel HB)
        rintro e w16 ⟨v109, rfl, ho0, hb⟩
        refine ⟨_, rfl, ?_⟩
        have n0_ := Aside0.mk (Kd.R_below (rch HO_5) hb);have n1_ := Aside0.mk (Kd.V_lower (Kd.V_mono (ok' := fun k_ => some k_ ≠ (u5 : Value).ownBlock ∧ k_ ≠ gb101) ho0 (fun k_ hk_ => ⟨(Kd.fresh' (Kd.R_lt (rch HO_5)) k_ hk_), (Kd.freshB (g := gb101) (o := .cells #[.slice (some ad105) l0_0.length c0_0, .slice A0_1 l0_1.length c0_1, .slice A0_2 l0_2.length c0_2, .slice A0_3 l0_3.length c0_3] 46 (0, 0)) blc k_ hk_)⟩)) (below_size (bel HB)));have n2_ := Aside0.mk (blk_below (g := gb101) (o := .cells #[.slice (some ad105) l0_0.length c0_0, .slice A0_1 l0_1.length c0_1, .slice A0_2 l0_2.length c0_2, .slice A0_3 l0_3.length c0_3] 46 (0, 0)) blc hb);have n3_ := Aside0.mk (below_step (bel HB) hb);clear HO_5;clear BK101;clear HB;have HO_5 := n0_;have HO110 := n1_;have BK101 := n2_;have HB := n3_;clear n0_ n1_ n2_ n3_
        (try clear hb)
        (try clear hb2)
        (try clear hk)
        (try clear hi)
        (try clear ho0)
        obtain ⟨Ao17, co17, eo17⟩ := Kd.V_slice HO110.out
        (first | subst eo17 | (injection eo17 with f1_ f2_ f3_; have f4_ := f1_.symm; have f5_ := f3_.symm; clear f1_ f2_ f3_; subst f4_; subst f5_))
        refine hK.out _ _ trivial (fun hHeld => ?_)
        clear hK K
        refine norm_ (a' := ?_) ?_ ?_
        rotate_left
        ·show Act.put _ (some 18) _ = _
         simp only [Act.put, List.setIfInBounds_toArray, List.set_cons_zero, List.set_cons_succ, i64_w, i32_w]
         rfl
        refine pure_ (i := 3) (N := some 19) (v := ?_) (a' := ?_) #[true, true, true, true, true, true, false, false, false, false] rfl rfl (any_of HT_.out (by kernel_rfl)) (fun _ _ _ h => h) (Or.inl ⟨by rfl, ?_⟩) ?_ ?_
        rotate_left
        ·intro w'
         go_simp
         with_reducible rfl
        rotate_left
        ·simp only [Act.put, List.setIfInBounds_toArray, List.set_cons_zero, List.set_cons_succ, i64_w, i32_w]
         rfl
        refine one_ (i := 6) (N := some 22) #[true, true, true, true, true, true, true, false, false, false] rfl rfl (one_of HT_.out (by kernel_rfl)) (by decide) (fun K hK => ?_)
        refine goes_ Tryz.func37 (by kernel_rfl) rfl #[.slice Ao17 t108.length co17, .int .u8 (bt a1 0)] (by rfl) rfl rfl (by (try simp only [List.map_toArray, List.map_cons, List.map_nil]); first | done | rfl | (simp only [List.length_drop, List.length_take]; rfl)) ?_
        with_reducible refine (slices_Index_byte_byte.calls k1 _ _ t108 (bt a1 0) t111 _ ?side1 ?side2 A13.out).mono ?_
        (case side1 => repeat (first | exact (Kd.V_reads' HO110.out).2.2 | (with_reducible refine Kd.C_alloc ?_ _) | (with_reducible refine Kd.C_drewN ?_ _) | (with_reducible refine Kd.C_drew ?_)))
        (case side2 => exact (Kd.V_reads' HO110.out).2.1)
        rintro e w' ⟨rfl, ⟨nd, rfl⟩⟩
        refine ⟨_, rfl, ?_⟩
        refine hK.out _ _ trivial (fun hHeld => ?_)
        clear hK K
        refine norm_ (a' := ?_) ?_ ?_
        rotate_left
        ·show Act.put _ (some 22) _ = _
         simp only [Act.put, List.setIfInBounds_toArray, List.set_cons_zero, List.set_cons_succ, i64_w, i32_w]
         rfl
        refine one_ (i := 7) (N := some 23) #[true, true, true, true, true, true, true, true, false, false] rfl rfl (one_of HT_.out (by kernel_rfl)) (by decide) (fun K hK => ?_)
        refine value_ (w1 := ?_) (v := ?_) (by rfl) rfl ?_ ?_
        rotate_left 2
        ·go_simp
         constructor
         ·rfl
         ·rfl
        refine hK.out _ _ trivial (fun hHeld => ?_)
        clear hK K
        refine norm_ (a' := ?_) ?_ ?_
        rotate_left
        ·show Act.put _ (some 23) _ = _
         simp only [Act.put, List.setIfInBounds_toArray, List.set_cons_zero, List.set_cons_succ, i64_w, i32_w]
         rfl
        refine one_ (i := 8) (N := some 24) #[true, true, true, true, true, true, true, true, true, false] rfl rfl (one_of HT_.out (by kernel_rfl)) (by decide) (fun K hK => ?_)
        refine Kd.R_append_step (Kd.int .i64) (w0 := w) w.heap.size (by rfl) (.tmp 16) (.tmp 23) 39 3 (.int .i64 0) 8 rfl Tryz.underlying39 info3 rfl (by decide) (by omega) u5 x5_1 t111 [.int .i64 t111] (fun _ => True) (fun _ => False) rfl rfl ?aP (fun _ hk => hk.elim) ?aF ?aO ?aB ?aS ?aL ?_
        (case aP => exact rfl)
        (case aB => exact (bel HB))
        (case aF => exact (fun _ _ => trivial))
        (case aO => exact (rch HO_5))
        (case aS => exact (below_size (bel HB)))
        (case aL => have := LMc14.out; omega)
        intro v113 w18 ho hb hg hat
        rw [← Ny112.out] at ho
        have n0_ := Aside0.mk (blk_grown (g := gb101) (o := .cells #[.slice (some ad105) l0_0.length c0_0, .slice A0_1 l0_1.length c0_1, .slice A0_2 l0_2.length c0_2, .slice A0_3 l0_3.length c0_3] 46 (0, 0)) blc hg (Kd.R_ne HO_5.out BK101.out (by decide)));have n1_ := Aside0.mk (Kd.V_afterv (ok := (fun k_ => k_ ≠ gb101)) (by (with_reducible repeat (first | apply Kd.V_alloc | apply Kd.V_drewN | apply Kd.V_drew)); exact Kd.V_mono HO110.out (fun _ hk => ⟨hk.2, hk.1⟩)) hg hat);have n2_ := Aside0.mk (hb);have n3_ := Aside0.mk (ho);clear BK101;clear HO110;clear HB;clear HO_5;have BK101 := n0_;have HO110 := n1_;have HB := n2_;have HO114 := n3_;clear n0_ n1_ n2_ n3_;clear ho hb hg hat
        refine hK.out _ _ trivial (fun hHeld => ?_)
        clear hK K
        refine norm_ (a' := ?_) ?_ ?_
        rotate_left
        ·show Act.put _ (some 24) _ = _
         simp only [Act.put, List.setIfInBounds_toArray, List.set_cons_zero, List.set_cons_succ, i64_w, i32_w]
         rfl
        refine pure_ (i := 9) (N := some 5) (v := ?_) (a' := ?_) #[true, true, true, true, true, true, true, true, true, true] rfl rfl (any_of HT_.out (by kernel_rfl)) (fun _ _ _ h => h) (Or.inl ⟨by rfl, ?_⟩) ?_ ?_
        rotate_left
        ·intro w'
         go_simp
         with_reducible rfl
        rotate_left
        ·simp only [Act.put, List.setIfInBounds_toArray, List.set_cons_zero, List.set_cons_succ, i64_w, i32_w]
         rfl
        refine done_ (done_of HT_.out (by kernel_rfl)) ?_
        try go_wp2
        go_roundg k1
        case measure => have := HK1.out; omega
        case rel => exact ⟨(y112), (wrap64 (x12_1 + 1)), (by first | rfl | (simp; done) | (simp [*]; done)), H', ⟨by have := HK1.out; omega⟩, ⟨rch HO114⟩, ⟨blc⟩, ⟨bel HB⟩⟩
       ·rw [if_neg c14] at H
        exact absurd H (by simp)
      ·rw [if_neg c11] at H
       exact absurd H (by simp)
     ·rw [if_neg c9] at H
      exact absurd H (by simp)
    ·rw [if_neg c8] at H
     exact absurd H (by simp)
   ·rw [if_neg c7] at H
    have c7b0 : decide (x12_1 < (l0_0.length : Int)) = false := decide_eq_false c7;clear c7;obtain rfl := Option.some.inj H
    go_wp2
    go_ret
    exact ⟨_, by first | rfl | (simp [errW_none, errW_some] <;> rfl) | (simp [*, errW_none, errW_some] <;> rfl), rch HO_5, bel HB⟩
end Go.Proofs.YtchjgphnglklcaaGreatDoor.Q
end
section
namespace Go.Proofs.YtchjgphnglklcaaGreatDoor.Q
set_option linter.unusedSectionVars false
set_option linter.unusedVariables false
open Go.RowKit Go.Proofs.YtchjgphnglklcaaGreatDoorW.PrintWords Go.Proofs.YtchjgphnglklcaaGreatDoorW.PrintLast Go.Proofs.YtchjgphnglklcaaGreatDoorW.PrintMore
def upo (o : Nat → Nat) (s j : Nat) : Nat → Nat := fun k => if k < s then o k else j
theorem upo_old {o : Nat → Nat} {s j k : Nat} (h : k < s) : upo o s j k = o k := if_pos h
theorem upo_new {o : Nat → Nat} {s j k : Nat} (h : s ≤ k) : upo o s j k = j := if_neg (Nat.not_lt.2 h)
section
variable {α : Type} {d : Kd α} {e base : Nat} {w w1 : World} {o : Nat → Nat} {v : Value} {xs : List α} {i : Nat}
theorem rowg_at (h : d.R e w base (fun k => o k = i) v xs) (j : Nat) : d.R e w base (fun k => upo o w.heap.size j k = i) v xs :=
 Kd.R_mono (Kd.R_bound h) fun k hk => (upo_old hk.2.2.1).trans hk.1
theorem rowg_other (h : d.R e w base (fun k => o k = i) v xs) {row : Option Nat} (hg : w.grownBy w1 row) {j : Nat} (hrow : ∀ k, row = some k → o k = j) (hij : i ≠ j) : d.R e w1 base (fun k => upo o w.heap.size j k = i) v xs :=
 Kd.R_mono (Kd.R_grown (Kd.R_bound h) hg fun k hk he => hij (hk.1.symm.trans (hrow k he.symm))) fun k hk => (upo_old hk.2.2.1).trans hk.1
theorem rowg_below (h : d.R e w base (fun k => o k = i) v xs) (hb : Below w.heap.size w w1) (j : Nat) : d.R e w1 base (fun k => upo o w.heap.size j k = i) v xs := Kd.R_below (rowg_at h j) hb
theorem rowv_at (h : d.V e w base (fun k => o k = i) v xs) (j : Nat) : d.V e w base (fun k => upo o w.heap.size j k = i) v xs :=
 Kd.V_mono (Kd.V_bound h) fun k hk => (upo_old hk.2).trans hk.1
theorem rowv_other (h : d.V e w base (fun k => o k = i) v xs) {row : Option Nat} (hg : w.grownBy w1 row) {j : Nat} (hrow : ∀ k, row = some k → o k = j) (hij : i ≠ j) : d.V e w1 base (fun k => upo o w.heap.size j k = i) v xs :=
 Kd.V_grown (rowv_at h j) hg fun k hk he => by
  by_cases hl : k < w.heap.size
  ·exact hij ((((upo_old hl).symm.trans hk).symm).trans (hrow k he.symm))
  ·exact hij (((upo_new (Nat.not_lt.1 hl)).symm.trans hk).symm)
theorem rowv_below (h : d.V e w base (fun k => o k = i) v xs) (hb : Below w.heap.size w w1) (j : Nat) : d.V e w1 base (fun k => upo o w.heap.size j k = i) v xs := Kd.V_below (rowv_at h j) hb
theorem rowx_at (h : d.S e w base (fun k => o k = i) v xs) (j : Nat) : d.S e w base (fun k => upo o w.heap.size j k = i) v xs :=
 Kd.S_mono (Kd.S_bound h) fun k hk => (upo_old hk.2.2.1).trans hk.1
theorem rowx_other (h : d.S e w base (fun k => o k = i) v xs) {row : Option Nat} (hg : w.grownBy w1 row) {j : Nat} (hrow : ∀ k, row = some k → o k = j) (hij : i ≠ j) : d.S e w1 base (fun k => upo o w.heap.size j k = i) v xs :=
 Kd.S_mono (Kd.S_grown (Kd.S_bound h) hg fun k hk he => hij (hk.1.symm.trans (hrow k he.symm))) fun k hk => (upo_old hk.2.2.1).trans hk.1
theorem rowx_below (h : d.S e w base (fun k => o k = i) v xs) (hb : Below w.heap.size w w1) (j : Nat) : d.S e w1 base (fun k => upo o w.heap.size j k = i) v xs := Kd.S_below (rowx_at h j) hb
theorem rowg_mine (h : d.R e w base (fun k => o k = i) v xs) : ∀ k, v.ownBlock = some k → o k = i := h.1
end
theorem MPS.row {α : Type} {d : Kd α} {e base b n : Nat} {ok : Nat → Prop} {w w1 : World} {v : Value} {xs : List α} {f : List UInt8 → Option Int} (h : MPS w b n f) (hr : Kd.R d e w base ok v xs) (hg : w.grownBy w1 v.ownBlock) : MPS w1 b n f :=
 h.kept hg fun he => by
  obtain ⟨_, _, _, q, _, cells, hc⟩ := (Kd.R_bound hr).1 b he.symm
  exact h.nc _ _ _ hc
structure RG (w : World) (B gb gr gt bm n : Nat) (cs cg : Array Value) (f : List UInt8 → Option Int) (o : Nat → Nat) (vt : Value) (lt : List (ByteArray)) (vfa : Value) (lfa : List (Int)) (vwd : Value) (lwd : List (ByteArray)) (vnx : Value) (lnx : List (List Int)) (vx : Value) (lx : List (Int)) (vb3 : Value) (lb3 : List (ByteArray)) (vb13 : Value) (lb13 : List (Int)) (vb23 : Value) (lb23 : List (Int)) (vb26 : Value) (lb26 : List (ByteArray)) (vg : Value) (lg : List (Int)) (vd : Value) (ld : List (Int)) : Prop where
 blk : w.heap[gr]? = some (.cells cs 46 (0, 0))
 gbk : cg ≠ #[] → w.heap[gt]? = some (.cells cg 64 (0, 0))
 map : MPS w bm n f
 t : Kd.R Kd.string 9 w B (fun k => o k = 1) vt lt
 fa : Kd.R (Kd.int .i64) 3 w B (fun k => o k = 2) vfa lfa
 wd : Kd.R Kd.string 9 w B (fun k => o k = 3) vwd lwd
 nx : Kd.S (Kd.slice 3 (Kd.int .i64)) 39 w B (fun k => o k = 4) vnx lnx
 x : Kd.R (Kd.int .i64) 3 w B (fun k => o k = 5) vx lx
 b3 : Kd.R Kd.string 9 w B (fun k => o k = 6) vb3 lb3
 b13 : Kd.R (Kd.int .i64) 3 w B (fun k => o k = 7) vb13 lb13
 b23 : Kd.R (Kd.int .u8) 5 w B (fun k => o k = 8) vb23 lb23
 b26 : Kd.R Kd.string 9 w B (fun k => o k = 9) vb26 lb26
 g : Kd.V (Kd.int .u8) 5 w B (fun k => o k = 10) vg lg
 d : Kd.V (Kd.int .u8) 5 w B (fun k => o k = 11) vd ld
 rbk : w.heap[gb]? = some (.cells #[.slice none 0 0, .slice none 0 0, .slice none 0 0, .slice none 0 0] 46 (0, 0))
 own : o gr = 0 ∧ o bm = 0
 nes : gb ≠ gr ∧ bm ≠ gr ∧ B ≤ gr ∧ B ≤ gb ∧ B ≤ bm
section
variable {w w1 : World} {B gb gr gt bm n : Nat} {cs cg : Array Value} {f : List UInt8 → Option Int} {o : Nat → Nat} {vt : Value} {lt : List (ByteArray)} {vfa : Value} {lfa : List (Int)} {vwd : Value} {lwd : List (ByteArray)} {vnx : Value} {lnx : List (List Int)} {vx : Value} {lx : List (Int)} {vb3 : Value} {lb3 : List (ByteArray)} {vb13 : Value} {lb13 : List (Int)} {vb23 : Value} {lb23 : List (Int)} {vb26 : Value} {lb26 : List (ByteArray)} {vg : Value} {lg : List (Int)} {vd : Value} {ld : List (Int)}
theorem RG.below (h : RG w B gb gr gt bm n cs cg f o vt lt vfa lfa vwd lwd vnx lnx vx lx vb3 lb3 vb13 lb13 vb23 lb23 vb26 lb26 vg lg vd ld) (hb : Below w.heap.size w w1) (j : Nat) : RG w1 B gb gr gt bm n cs cg f (upo o w.heap.size j) vt lt vfa lfa vwd lwd vnx lnx vx lx vb3 lb3 vb13 lb13 vb23 lb23 vb26 lb26 vg lg vd ld :=
 ⟨(hb.block gr (blk_lt h.blk)).trans h.blk, fun hz => (hb.block gt (blk_lt (h.gbk hz))).trans (h.gbk hz), h.map.below hb, rowg_below h.t hb j, rowg_below h.fa hb j, rowg_below h.wd hb j, rowx_below h.nx hb j, rowg_below h.x hb j, rowg_below h.b3 hb j, rowg_below h.b13 hb j, rowg_below h.b23 hb j, rowg_below h.b26 hb j, rowv_below h.g hb j, rowv_below h.d hb j, (hb.block gb (blk_lt h.rbk)).trans h.rbk, ⟨(upo_old (blk_lt h.blk)).trans h.own.1, (upo_old h.map.lt).trans h.own.2⟩, h.nes⟩
theorem RG.turn_t (h : RG w B gb gr gt bm n cs cg f o vt lt vfa lfa vwd lwd vnx lnx vx lx vb3 lb3 vb13 lb13 vb23 lb23 vb26 lb26 vg lg vd ld) {v1 : Value} {l1 : List (ByteArray)} (hg : w.grownBy w1 vt.ownBlock) (hr : Kd.R Kd.string 9 w1 B (fun k => upo o w.heap.size 1 k = 1) v1 l1) : RG w1 B gb gr gt bm n cs cg f (upo o w.heap.size 1) v1 l1 vfa lfa vwd lwd vnx lnx vx lx vb3 lb3 vb13 lb13 vb23 lb23 vb26 lb26 vg lg vd ld :=
 ⟨blk_grown h.blk hg (Kd.R_ne h.t h.blk (by decide)), fun hz => blk_grown (h.gbk hz) hg (Kd.R_ne h.t (h.gbk hz) (by decide)), h.map.row h.t hg, hr, rowg_other h.fa hg (rowg_mine h.t) (by decide), rowg_other h.wd hg (rowg_mine h.t) (by decide), rowx_other h.nx hg (rowg_mine h.t) (by decide), rowg_other h.x hg (rowg_mine h.t) (by decide), rowg_other h.b3 hg (rowg_mine h.t) (by decide), rowg_other h.b13 hg (rowg_mine h.t) (by decide), rowg_other h.b23 hg (rowg_mine h.t) (by decide), rowg_other h.b26 hg (rowg_mine h.t) (by decide), rowv_other h.g hg (rowg_mine h.t) (by decide), rowv_other h.d hg (rowg_mine h.t) (by decide), blk_grown h.rbk hg (Kd.R_ne h.t h.rbk (by decide)), ⟨(upo_old (blk_lt h.blk)).trans h.own.1, (upo_old h.map.lt).trans h.own.2⟩, h.nes⟩
theorem RG.turn_fa (h : RG w B gb gr gt bm n cs cg f o vt lt vfa lfa vwd lwd vnx lnx vx lx vb3 lb3 vb13 lb13 vb23 lb23 vb26 lb26 vg lg vd ld) {v1 : Value} {l1 : List (Int)} (hg : w.grownBy w1 vfa.ownBlock) (hr : Kd.R (Kd.int .i64) 3 w1 B (fun k => upo o w.heap.size 2 k = 2) v1 l1) : RG w1 B gb gr gt bm n cs cg f (upo o w.heap.size 2) vt lt v1 l1 vwd lwd vnx lnx vx lx vb3 lb3 vb13 lb13 vb23 lb23 vb26 lb26 vg lg vd ld :=
 ⟨blk_grown h.blk hg (Kd.R_ne h.fa h.blk (by decide)), fun hz => blk_grown (h.gbk hz) hg (Kd.R_ne h.fa (h.gbk hz) (by decide)), h.map.row h.fa hg, rowg_other h.t hg (rowg_mine h.fa) (by decide), hr, rowg_other h.wd hg (rowg_mine h.fa) (by decide), rowx_other h.nx hg (rowg_mine h.fa) (by decide), rowg_other h.x hg (rowg_mine h.fa) (by decide), rowg_other h.b3 hg (rowg_mine h.fa) (by decide), rowg_other h.b13 hg (rowg_mine h.fa) (by decide), rowg_other h.b23 hg (rowg_mine h.fa) (by decide), rowg_other h.b26 hg (rowg_mine h.fa) (by decide), rowv_other h.g hg (rowg_mine h.fa) (by decide), rowv_other h.d hg (rowg_mine h.fa) (by decide), blk_grown h.rbk hg (Kd.R_ne h.fa h.rbk (by decide)), ⟨(upo_old (blk_lt h.blk)).trans h.own.1, (upo_old h.map.lt).trans h.own.2⟩, h.nes⟩
theorem RG.turn_wd (h : RG w B gb gr gt bm n cs cg f o vt lt vfa lfa vwd lwd vnx lnx vx lx vb3 lb3 vb13 lb13 vb23 lb23 vb26 lb26 vg lg vd ld) {v1 : Value} {l1 : List (ByteArray)} (hg : w.grownBy w1 vwd.ownBlock) (hr : Kd.R Kd.string 9 w1 B (fun k => upo o w.heap.size 3 k = 3) v1 l1) : RG w1 B gb gr gt bm n cs cg f (upo o w.heap.size 3) vt lt vfa lfa v1 l1 vnx lnx vx lx vb3 lb3 vb13 lb13 vb23 lb23 vb26 lb26 vg lg vd ld :=
 ⟨blk_grown h.blk hg (Kd.R_ne h.wd h.blk (by decide)), fun hz => blk_grown (h.gbk hz) hg (Kd.R_ne h.wd (h.gbk hz) (by decide)), h.map.row h.wd hg, rowg_other h.t hg (rowg_mine h.wd) (by decide), rowg_other h.fa hg (rowg_mine h.wd) (by decide), hr, rowx_other h.nx hg (rowg_mine h.wd) (by decide), rowg_other h.x hg (rowg_mine h.wd) (by decide), rowg_other h.b3 hg (rowg_mine h.wd) (by decide), rowg_other h.b13 hg (rowg_mine h.wd) (by decide), rowg_other h.b23 hg (rowg_mine h.wd) (by decide), rowg_other h.b26 hg (rowg_mine h.wd) (by decide), rowv_other h.g hg (rowg_mine h.wd) (by decide), rowv_other h.d hg (rowg_mine h.wd) (by decide), blk_grown h.rbk hg (Kd.R_ne h.wd h.rbk (by decide)), ⟨(upo_old (blk_lt h.blk)).trans h.own.1, (upo_old h.map.lt).trans h.own.2⟩, h.nes⟩
theorem RG.turn_nx (h : RG w B gb gr gt bm n cs cg f o vt lt vfa lfa vwd lwd vnx lnx vx lx vb3 lb3 vb13 lb13 vb23 lb23 vb26 lb26 vg lg vd ld) {v1 : Value} {l1 : List (List Int)} (hg : w.grownBy w1 vnx.ownBlock) (hr : Kd.S (Kd.slice 3 (Kd.int .i64)) 39 w1 B (fun k => upo o w.heap.size 4 k = 4) v1 l1) : RG w1 B gb gr gt bm n cs cg f (upo o w.heap.size 4) vt lt vfa lfa vwd lwd v1 l1 vx lx vb3 lb3 vb13 lb13 vb23 lb23 vb26 lb26 vg lg vd ld :=
 ⟨blk_grown h.blk hg (Kd.R_ne (Kd.S_R h.nx) h.blk (by decide)), fun hz => blk_grown (h.gbk hz) hg (Kd.R_ne (Kd.S_R h.nx) (h.gbk hz) (by decide)), h.map.row (Kd.S_R h.nx) hg, rowg_other h.t hg (rowg_mine (Kd.S_R h.nx)) (by decide), rowg_other h.fa hg (rowg_mine (Kd.S_R h.nx)) (by decide), rowg_other h.wd hg (rowg_mine (Kd.S_R h.nx)) (by decide), hr, rowg_other h.x hg (rowg_mine (Kd.S_R h.nx)) (by decide), rowg_other h.b3 hg (rowg_mine (Kd.S_R h.nx)) (by decide), rowg_other h.b13 hg (rowg_mine (Kd.S_R h.nx)) (by decide), rowg_other h.b23 hg (rowg_mine (Kd.S_R h.nx)) (by decide), rowg_other h.b26 hg (rowg_mine (Kd.S_R h.nx)) (by decide), rowv_other h.g hg (rowg_mine (Kd.S_R h.nx)) (by decide), rowv_other h.d hg (rowg_mine (Kd.S_R h.nx)) (by decide), blk_grown h.rbk hg (Kd.R_ne (Kd.S_R h.nx) h.rbk (by decide)), ⟨(upo_old (blk_lt h.blk)).trans h.own.1, (upo_old h.map.lt).trans h.own.2⟩, h.nes⟩
theorem RG.turn_x (h : RG w B gb gr gt bm n cs cg f o vt lt vfa lfa vwd lwd vnx lnx vx lx vb3 lb3 vb13 lb13 vb23 lb23 vb26 lb26 vg lg vd ld) {v1 : Value} {l1 : List (Int)} (hg : w.grownBy w1 vx.ownBlock) (hr : Kd.R (Kd.int .i64) 3 w1 B (fun k => upo o w.heap.size 5 k = 5) v1 l1) : RG w1 B gb gr gt bm n cs cg f (upo o w.heap.size 5) vt lt vfa lfa vwd lwd vnx lnx v1 l1 vb3 lb3 vb13 lb13 vb23 lb23 vb26 lb26 vg lg vd ld :=
 ⟨blk_grown h.blk hg (Kd.R_ne h.x h.blk (by decide)), fun hz => blk_grown (h.gbk hz) hg (Kd.R_ne h.x (h.gbk hz) (by decide)), h.map.row h.x hg, rowg_other h.t hg (rowg_mine h.x) (by decide), rowg_other h.fa hg (rowg_mine h.x) (by decide), rowg_other h.wd hg (rowg_mine h.x) (by decide), rowx_other h.nx hg (rowg_mine h.x) (by decide), hr, rowg_other h.b3 hg (rowg_mine h.x) (by decide), rowg_other h.b13 hg (rowg_mine h.x) (by decide), rowg_other h.b23 hg (rowg_mine h.x) (by decide), rowg_other h.b26 hg (rowg_mine h.x) (by decide), rowv_other h.g hg (rowg_mine h.x) (by decide), rowv_other h.d hg (rowg_mine h.x) (by decide), blk_grown h.rbk hg (Kd.R_ne h.x h.rbk (by decide)), ⟨(upo_old (blk_lt h.blk)).trans h.own.1, (upo_old h.map.lt).trans h.own.2⟩, h.nes⟩
theorem RG.made_x (h : RG w B gb gr gt bm n cs cg f o vt lt vfa lfa vwd lwd vnx lnx vx lx vb3 lb3 vb13 lb13 vb23 lb23 vb26 lb26 vg lg vd ld) {v1 : Value} {l1 : List (Int)} (hg : w.grownBy w1 none) (hr : Kd.R (Kd.int .i64) 3 w1 B (fun k => upo o w.heap.size 5 k = 5) v1 l1) : RG w1 B gb gr gt bm n cs cg f (upo o w.heap.size 5) vt lt vfa lfa vwd lwd vnx lnx v1 l1 vb3 lb3 vb13 lb13 vb23 lb23 vb26 lb26 vg lg vd ld :=
 ⟨blk_grown h.blk hg (by simp), fun hz => blk_grown (h.gbk hz) hg (by simp), h.map.kept hg (by simp), rowg_other h.t hg (fun _ hk => by cases hk) (by decide : (1 : Nat) ≠ 5), rowg_other h.fa hg (fun _ hk => by cases hk) (by decide : (2 : Nat) ≠ 5), rowg_other h.wd hg (fun _ hk => by cases hk) (by decide : (3 : Nat) ≠ 5), rowx_other h.nx hg (fun _ hk => by cases hk) (by decide : (4 : Nat) ≠ 5), hr, rowg_other h.b3 hg (fun _ hk => by cases hk) (by decide : (6 : Nat) ≠ 5), rowg_other h.b13 hg (fun _ hk => by cases hk) (by decide : (7 : Nat) ≠ 5), rowg_other h.b23 hg (fun _ hk => by cases hk) (by decide : (8 : Nat) ≠ 5), rowg_other h.b26 hg (fun _ hk => by cases hk) (by decide : (9 : Nat) ≠ 5), rowv_other h.g hg (fun _ hk => by cases hk) (by decide : (10 : Nat) ≠ 5), rowv_other h.d hg (fun _ hk => by cases hk) (by decide : (11 : Nat) ≠ 5), blk_grown h.rbk hg (by simp), ⟨(upo_old (blk_lt h.blk)).trans h.own.1, (upo_old h.map.lt).trans h.own.2⟩, h.nes⟩
theorem RG.made_b3 (h : RG w B gb gr gt bm n cs cg f o vt lt vfa lfa vwd lwd vnx lnx vx lx vb3 lb3 vb13 lb13 vb23 lb23 vb26 lb26 vg lg vd ld) {v1 : Value} {l1 : List (ByteArray)} (hg : w.grownBy w1 none) (hr : Kd.R Kd.string 9 w1 B (fun k => upo o w.heap.size 6 k = 6) v1 l1) : RG w1 B gb gr gt bm n cs cg f (upo o w.heap.size 6) vt lt vfa lfa vwd lwd vnx lnx vx lx v1 l1 vb13 lb13 vb23 lb23 vb26 lb26 vg lg vd ld :=
 ⟨blk_grown h.blk hg (by simp), fun hz => blk_grown (h.gbk hz) hg (by simp), h.map.kept hg (by simp), rowg_other h.t hg (fun _ hk => by cases hk) (by decide : (1 : Nat) ≠ 6), rowg_other h.fa hg (fun _ hk => by cases hk) (by decide : (2 : Nat) ≠ 6), rowg_other h.wd hg (fun _ hk => by cases hk) (by decide : (3 : Nat) ≠ 6), rowx_other h.nx hg (fun _ hk => by cases hk) (by decide : (4 : Nat) ≠ 6), rowg_other h.x hg (fun _ hk => by cases hk) (by decide : (5 : Nat) ≠ 6), hr, rowg_other h.b13 hg (fun _ hk => by cases hk) (by decide : (7 : Nat) ≠ 6), rowg_other h.b23 hg (fun _ hk => by cases hk) (by decide : (8 : Nat) ≠ 6), rowg_other h.b26 hg (fun _ hk => by cases hk) (by decide : (9 : Nat) ≠ 6), rowv_other h.g hg (fun _ hk => by cases hk) (by decide : (10 : Nat) ≠ 6), rowv_other h.d hg (fun _ hk => by cases hk) (by decide : (11 : Nat) ≠ 6), blk_grown h.rbk hg (by simp), ⟨(upo_old (blk_lt h.blk)).trans h.own.1, (upo_old h.map.lt).trans h.own.2⟩, h.nes⟩
theorem RG.made_b13 (h : RG w B gb gr gt bm n cs cg f o vt lt vfa lfa vwd lwd vnx lnx vx lx vb3 lb3 vb13 lb13 vb23 lb23 vb26 lb26 vg lg vd ld) {v1 : Value} {l1 : List (Int)} (hg : w.grownBy w1 none) (hr : Kd.R (Kd.int .i64) 3 w1 B (fun k => upo o w.heap.size 7 k = 7) v1 l1) : RG w1 B gb gr gt bm n cs cg f (upo o w.heap.size 7) vt lt vfa lfa vwd lwd vnx lnx vx lx vb3 lb3 v1 l1 vb23 lb23 vb26 lb26 vg lg vd ld :=
 ⟨blk_grown h.blk hg (by simp), fun hz => blk_grown (h.gbk hz) hg (by simp), h.map.kept hg (by simp), rowg_other h.t hg (fun _ hk => by cases hk) (by decide : (1 : Nat) ≠ 7), rowg_other h.fa hg (fun _ hk => by cases hk) (by decide : (2 : Nat) ≠ 7), rowg_other h.wd hg (fun _ hk => by cases hk) (by decide : (3 : Nat) ≠ 7), rowx_other h.nx hg (fun _ hk => by cases hk) (by decide : (4 : Nat) ≠ 7), rowg_other h.x hg (fun _ hk => by cases hk) (by decide : (5 : Nat) ≠ 7), rowg_other h.b3 hg (fun _ hk => by cases hk) (by decide : (6 : Nat) ≠ 7), hr, rowg_other h.b23 hg (fun _ hk => by cases hk) (by decide : (8 : Nat) ≠ 7), rowg_other h.b26 hg (fun _ hk => by cases hk) (by decide : (9 : Nat) ≠ 7), rowv_other h.g hg (fun _ hk => by cases hk) (by decide : (10 : Nat) ≠ 7), rowv_other h.d hg (fun _ hk => by cases hk) (by decide : (11 : Nat) ≠ 7), blk_grown h.rbk hg (by simp), ⟨(upo_old (blk_lt h.blk)).trans h.own.1, (upo_old h.map.lt).trans h.own.2⟩, h.nes⟩
theorem RG.made_b23 (h : RG w B gb gr gt bm n cs cg f o vt lt vfa lfa vwd lwd vnx lnx vx lx vb3 lb3 vb13 lb13 vb23 lb23 vb26 lb26 vg lg vd ld) {v1 : Value} {l1 : List (Int)} (hg : w.grownBy w1 none) (hr : Kd.R (Kd.int .u8) 5 w1 B (fun k => upo o w.heap.size 8 k = 8) v1 l1) : RG w1 B gb gr gt bm n cs cg f (upo o w.heap.size 8) vt lt vfa lfa vwd lwd vnx lnx vx lx vb3 lb3 vb13 lb13 v1 l1 vb26 lb26 vg lg vd ld :=
 ⟨blk_grown h.blk hg (by simp), fun hz => blk_grown (h.gbk hz) hg (by simp), h.map.kept hg (by simp), rowg_other h.t hg (fun _ hk => by cases hk) (by decide : (1 : Nat) ≠ 8), rowg_other h.fa hg (fun _ hk => by cases hk) (by decide : (2 : Nat) ≠ 8), rowg_other h.wd hg (fun _ hk => by cases hk) (by decide : (3 : Nat) ≠ 8), rowx_other h.nx hg (fun _ hk => by cases hk) (by decide : (4 : Nat) ≠ 8), rowg_other h.x hg (fun _ hk => by cases hk) (by decide : (5 : Nat) ≠ 8), rowg_other h.b3 hg (fun _ hk => by cases hk) (by decide : (6 : Nat) ≠ 8), rowg_other h.b13 hg (fun _ hk => by cases hk) (by decide : (7 : Nat) ≠ 8), hr, rowg_other h.b26 hg (fun _ hk => by cases hk) (by decide : (9 : Nat) ≠ 8), rowv_other h.g hg (fun _ hk => by cases hk) (by decide : (10 : Nat) ≠ 8), rowv_other h.d hg (fun _ hk => by cases hk) (by decide : (11 : Nat) ≠ 8), blk_grown h.rbk hg (by simp), ⟨(upo_old (blk_lt h.blk)).trans h.own.1, (upo_old h.map.lt).trans h.own.2⟩, h.nes⟩
theorem RG.made_b26 (h : RG w B gb gr gt bm n cs cg f o vt lt vfa lfa vwd lwd vnx lnx vx lx vb3 lb3 vb13 lb13 vb23 lb23 vb26 lb26 vg lg vd ld) {v1 : Value} {l1 : List (ByteArray)} (hg : w.grownBy w1 none) (hr : Kd.R Kd.string 9 w1 B (fun k => upo o w.heap.size 9 k = 9) v1 l1) : RG w1 B gb gr gt bm n cs cg f (upo o w.heap.size 9) vt lt vfa lfa vwd lwd vnx lnx vx lx vb3 lb3 vb13 lb13 vb23 lb23 v1 l1 vg lg vd ld :=
 ⟨blk_grown h.blk hg (by simp), fun hz => blk_grown (h.gbk hz) hg (by simp), h.map.kept hg (by simp), rowg_other h.t hg (fun _ hk => by cases hk) (by decide : (1 : Nat) ≠ 9), rowg_other h.fa hg (fun _ hk => by cases hk) (by decide : (2 : Nat) ≠ 9), rowg_other h.wd hg (fun _ hk => by cases hk) (by decide : (3 : Nat) ≠ 9), rowx_other h.nx hg (fun _ hk => by cases hk) (by decide : (4 : Nat) ≠ 9), rowg_other h.x hg (fun _ hk => by cases hk) (by decide : (5 : Nat) ≠ 9), rowg_other h.b3 hg (fun _ hk => by cases hk) (by decide : (6 : Nat) ≠ 9), rowg_other h.b13 hg (fun _ hk => by cases hk) (by decide : (7 : Nat) ≠ 9), rowg_other h.b23 hg (fun _ hk => by cases hk) (by decide : (8 : Nat) ≠ 9), hr, rowv_other h.g hg (fun _ hk => by cases hk) (by decide : (10 : Nat) ≠ 9), rowv_other h.d hg (fun _ hk => by cases hk) (by decide : (11 : Nat) ≠ 9), blk_grown h.rbk hg (by simp), ⟨(upo_old (blk_lt h.blk)).trans h.own.1, (upo_old h.map.lt).trans h.own.2⟩, h.nes⟩
theorem RG.seen_g (h : RG w B gb gr gt bm n cs cg f o vt lt vfa lfa vwd lwd vnx lnx vx lx vb3 lb3 vb13 lb13 vb23 lb23 vb26 lb26 vg lg vd ld) {v1 : Value} {l1 : List (Int)} (hb : Below w.heap.size w w1) (hr : Kd.V (Kd.int .u8) 5 w1 B (fun k => upo o w.heap.size 10 k = 10) v1 l1) : RG w1 B gb gr gt bm n cs cg f (upo o w.heap.size 10) vt lt vfa lfa vwd lwd vnx lnx vx lx vb3 lb3 vb13 lb13 vb23 lb23 vb26 lb26 v1 l1 vd ld :=
 { RG.below h hb 10 with g := hr }
theorem RG.seen_d (h : RG w B gb gr gt bm n cs cg f o vt lt vfa lfa vwd lwd vnx lnx vx lx vb3 lb3 vb13 lb13 vb23 lb23 vb26 lb26 vg lg vd ld) {v1 : Value} {l1 : List (Int)} (hb : Below w.heap.size w w1) (hr : Kd.V (Kd.int .u8) 5 w1 B (fun k => upo o w.heap.size 11 k = 11) v1 l1) : RG w1 B gb gr gt bm n cs cg f (upo o w.heap.size 11) vt lt vfa lfa vwd lwd vnx lnx vx lx vb3 lb3 vb13 lb13 vb23 lb23 vb26 lb26 vg lg v1 l1 :=
 { RG.below h hb 11 with d := hr }
theorem RG.cell (h : RG w B gb gr gt bm n cs cg f o vt lt vfa lfa vwd lwd vnx lnx vx lx vb3 lb3 vb13 lb13 vb23 lb23 vb26 lb26 vg lg vd ld) {cs' : Array Value} (j : Nat) (u : Value) (he : cs.setIfInBounds j u = cs') : RG (w.setCell ⟨gr, j, none⟩ u) B gb gr gt bm n cs' cg f o vt lt vfa lfa vwd lwd vnx lnx vx lx vb3 lb3 vb13 lb13 vb23 lb23 vb26 lb26 vg lg vd ld :=
 ⟨blk_put h.blk j u he, fun hz => blk_far (h.gbk hz) (p := ⟨gr, j, none⟩) (blk_ne (h.gbk hz) h.blk (by decide)) u, h.map.set h.nes.2.1 j u, Kd.R_set h.t h.blk (by decide) j u, Kd.R_set h.fa h.blk (by decide) j u, Kd.R_set h.wd h.blk (by decide) j u, Kd.S_set h.nx h.blk (by decide) j u, Kd.R_set h.x h.blk (by decide) j u, Kd.R_set h.b3 h.blk (by decide) j u, Kd.R_set h.b13 h.blk (by decide) j u, Kd.R_set h.b23 h.blk (by decide) j u, Kd.R_set h.b26 h.blk (by decide) j u, Kd.V_far (p := ⟨gr, j, none⟩) h.g (fun k_ hk e => by have h1 := h.own.1; rw [← show k_ = gr from e, hk] at h1; cases h1) u, Kd.V_far (p := ⟨gr, j, none⟩) h.d (fun k_ hk e => by have h1 := h.own.1; rw [← show k_ = gr from e, hk] at h1; cases h1) u, blk_far h.rbk (p := ⟨gr, j, none⟩) h.nes.1 u, h.own, h.nes⟩
theorem RG.tcell (h : RG w B gb gr gt bm n cs cg f o vt lt vfa lfa vwd lwd vnx lnx vx lx vb3 lb3 vb13 lb13 vb23 lb23 vb26 lb26 vg lg vd ld) {cg' : Array Value} (hz : cg ≠ #[]) (hot : o gt = 0) (j : Nat) (u : Value) (he : cg.setIfInBounds j u = cg') : RG (w.setCell ⟨gt, j, none⟩ u) B gb gr gt bm n cs cg' f o vt lt vfa lfa vwd lwd vnx lnx vx lx vb3 lb3 vb13 lb13 vb23 lb23 vb26 lb26 vg lg vd ld :=
 ⟨blk_far h.blk (p := ⟨gt, j, none⟩) (blk_ne h.blk (h.gbk hz) (by decide)) u, fun _ => blk_put (h.gbk hz) j u he, h.map.set (blk_nc (h.gbk hz) h.map.nc) j u, Kd.R_set h.t (h.gbk hz) (by decide) j u, Kd.R_set h.fa (h.gbk hz) (by decide) j u, Kd.R_set h.wd (h.gbk hz) (by decide) j u, Kd.S_set h.nx (h.gbk hz) (by decide) j u, Kd.R_set h.x (h.gbk hz) (by decide) j u, Kd.R_set h.b3 (h.gbk hz) (by decide) j u, Kd.R_set h.b13 (h.gbk hz) (by decide) j u, Kd.R_set h.b23 (h.gbk hz) (by decide) j u, Kd.R_set h.b26 (h.gbk hz) (by decide) j u, Kd.V_far (p := ⟨gt, j, none⟩) h.g (fun k_ hk e => by have h1 := hot; rw [← show k_ = gt from e, hk] at h1; cases h1) u, Kd.V_far (p := ⟨gt, j, none⟩) h.d (fun k_ hk e => by have h1 := hot; rw [← show k_ = gt from e, hk] at h1; cases h1) u, blk_far h.rbk (p := ⟨gt, j, none⟩) (blk_ne h.rbk (h.gbk hz) (by decide)) u, h.own, h.nes⟩
theorem RG.mapped (h : RG w B gb gr gt bm n cs cg f o vt lt vfa lfa vwd lwd vnx lnx vx lx vb3 lb3 vb13 lb13 vb23 lb23 vb26 lb26 vg lg vd ld) {n' : Nat} {f' : List UInt8 → Option Int} (hg : w.grownBy w1 (some bm)) (hm : MPS w1 bm n' f') : RG w1 B gb gr gt bm n' cs cg f' o vt lt vfa lfa vwd lwd vnx lnx vx lx vb3 lb3 vb13 lb13 vb23 lb23 vb26 lb26 vg lg vd ld :=
 ⟨blk_turn h.blk hg h.map.nc, fun hz => blk_turn (h.gbk hz) hg h.map.nc, hm, R_turn h.t hg h.map.nc, R_turn h.fa hg h.map.nc, R_turn h.wd hg h.map.nc, S_turn h.nx hg h.map.nc, R_turn h.x hg h.map.nc, R_turn h.b3 hg h.map.nc, R_turn h.b13 hg h.map.nc, R_turn h.b23 hg h.map.nc, R_turn h.b26 hg h.map.nc, Kd.V_grown h.g hg (fun k_ hk e => by have h1 := h.own.2; cases e; rw [hk] at h1; cases h1), Kd.V_grown h.d hg (fun k_ hk e => by have h1 := h.own.2; cases e; rw [hk] at h1; cases h1), blk_turn h.rbk hg h.map.nc, h.own, h.nes⟩
theorem RG.tray (h : RG w B gb gr gt bm n cs cg f o vt lt vfa lfa vwd lwd vnx lnx vx lx vb3 lb3 vb13 lb13 vb23 lb23 vb26 lb26 vg lg vd ld) {gt' : Nat} {cg' : Array Value} (hx : w.heap[gt']? = some (.cells cg' 64 (0, 0))) : RG w B gb gr gt' bm n cs cg' f o vt lt vfa lfa vwd lwd vnx lnx vx lx vb3 lb3 vb13 lb13 vb23 lb23 vb26 lb26 vg lg vd ld :=
 { h with gbk := fun _ => hx }
theorem RG.give (h : RG w B gb gr gt bm n cs cg f o vt lt vfa lfa vwd lwd vnx lnx vx lx vb3 lb3 vb13 lb13 vb23 lb23 vb26 lb26 vg lg vd ld) : RG w B gb gr gt bm n cs cg f (fun k => if o k = 5 then 4 else o k) vt lt vfa lfa vwd lwd vnx lnx (.slice none 0 0) [] vb3 lb3 vb13 lb13 vb23 lb23 vb26 lb26 vg lg vd ld :=
 ⟨h.blk, h.gbk, h.map, Kd.R_mono h.t (fun k hk => by show (if o k = 5 then 4 else o k) = 1; rw [if_neg (by omega), hk]), Kd.R_mono h.fa (fun k hk => by show (if o k = 5 then 4 else o k) = 2; rw [if_neg (by omega), hk]), Kd.R_mono h.wd (fun k hk => by show (if o k = 5 then 4 else o k) = 3; rw [if_neg (by omega), hk]), Kd.S_mono h.nx (fun k hk => by show (if o k = 5 then 4 else o k) = 4; rw [if_neg (by omega), hk]), Kd.R_nil _ _ _ _ _, Kd.R_mono h.b3 (fun k hk => by show (if o k = 5 then 4 else o k) = 6; rw [if_neg (by omega), hk]), Kd.R_mono h.b13 (fun k hk => by show (if o k = 5 then 4 else o k) = 7; rw [if_neg (by omega), hk]), Kd.R_mono h.b23 (fun k hk => by show (if o k = 5 then 4 else o k) = 8; rw [if_neg (by omega), hk]), Kd.R_mono h.b26 (fun k hk => by show (if o k = 5 then 4 else o k) = 9; rw [if_neg (by omega), hk]), Kd.V_mono h.g (fun k hk => by show (if o k = 5 then 4 else o k) = 10; rw [if_neg (by omega), hk]), Kd.V_mono h.d (fun k hk => by show (if o k = 5 then 4 else o k) = 11; rw [if_neg (by omega), hk]), h.rbk, ⟨by show (if o gr = 5 then 4 else o gr) = 0; rw [h.own.1]; rfl, by show (if o bm = 5 then 4 else o bm) = 0; rw [h.own.2]; rfl⟩, h.nes⟩
theorem RG.bare (h : RG w B gb gr gt bm n cs cg f o vt lt vfa lfa vwd lwd vnx lnx vx lx vb3 lb3 vb13 lb13 vb23 lb23 vb26 lb26 vg lg vd ld) : RG w B gb gr gt bm n cs cg f o vt lt vfa lfa vwd lwd vnx lnx vx lx (.slice none 0 0) [] (.slice none 0 0) [] (.slice none 0 0) [] (.slice none 0 0) [] vg lg vd ld :=
 { h with b3 := Kd.R_nil _ _ _ _ _, b13 := Kd.R_nil _ _ _ _ _, b23 := Kd.R_nil _ _ _ _ _, b26 := Kd.R_nil _ _ _ _ _ }
theorem RG.rest (h : RG w B gb gr gt bm n cs cg f o vt lt vfa lfa vwd lwd vnx lnx vx lx vb3 lb3 vb13 lb13 vb23 lb23 vb26 lb26 vg lg vd ld) : RG w B gb gr gt bm n cs cg f o vt lt vfa lfa vwd lwd vnx lnx vx lx vb3 lb3 vb13 lb13 vb23 lb23 vb26 lb26 (.slice none 0 0) [] (.slice none 0 0) [] :=
 { h with g := Kd.V_nil _ _ _ _ _, d := Kd.V_nil _ _ _ _ _ }
end
end Go.Proofs.YtchjgphnglklcaaGreatDoor.Q
end
