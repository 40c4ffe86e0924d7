/- Texts of this claim, joined. -/
import Derived.Test.YtkjlfgceodindaaDoorJWordToOne01
import Derived.Test.YtkjlfgceodindaaDoorJWordToOne03
import Derived.Test.YtkjlfgceodindaaDoorJWordToOne06
import Derived.Carry
import Derived.RangeFuncBox
import Derived.Test.YtkjlfgceodindaaDoorJWordToOne05
set_option linter.unusedVariables false
set_option linter.unusedSimpArgs false
set_option linter.unusedSectionVars false
section
namespace Go.Proofs.YtkjlfgceodindaaDoor.Q
set_option linter.unusedSectionVars false
open Go.RowKit Go.Proofs.YtkjlfgceodindaaDoorW.PrintWords Go.Proofs.YtkjlfgceodindaaDoorW.PrintLast Go.Proofs.YtkjlfgceodindaaDoorW.PrintMore
def comes (f : Int → Option Int) (came : Int → Bool) (n : Nat) (j : Nat) : Option Nat := (List.range n).find? fun x : Nat => decide (f (x : Int) = some (j : Int)) && came (x : Int)
def laidCells (cs em : List Int) (f : Int → Option Int) (came : Int → Bool) : List Int := (List.range cs.length).map fun j : Nat => match comes f came cs.length j with | some x => rd cs (x : Int) | none => rd em (j : Int)
structure Fits (f : Int → Option Int) (n : Nat) : Prop where
 dom : ∀ x c, f x = some c → 0 ≤ x ∧ x < (n : Int) ∧ 0 ≤ c ∧ c < (n : Int)
 inj : ∀ x y c, f x = some c → f y = some c → x = y
theorem laid_none (cs em : List Int) (f : Int → Option Int) (hl : em.length = cs.length) : laidCells cs em f (fun _ => false) = em := by
 unfold laidCells comes
 refine List.ext_getElem (by simpa using hl.symm) fun j h1 h2 => ?_
 rw [List.getElem_map, List.getElem_range]
 rw [List.find?_eq_none.2 (fun x _ => by simp)]
 show rd em (j : Int) = _
 unfold rd
 rw [Int.toNat_natCast, List.getD_eq_getElem?_getD, List.getElem?_eq_getElem h2]
 rfl
theorem laid_len (cs em : List Int) (f : Int → Option Int) (came : Int → Bool) : (laidCells cs em f came).length = cs.length := by
 unfold laidCells
 rw [List.length_map, List.length_range]
theorem laid_step (cs em : List Int) (f : Int → Option Int) (came : Int → Bool) (hf : Fits f cs.length) (x c : Int) (hx : f x = some c) : laidCells cs em f (fun y => came y || decide (y = x)) = (laidCells cs em f came).set c.toNat (rd cs x) := by
 obtain ⟨h0, h1, h2, h3⟩ := hf.dom x c hx;unfold laidCells
 refine List.ext_getElem (by simp) fun j h4 h5 => ?_
 rw [List.getElem_set, List.getElem_map, List.getElem_range]
 have hj : j < cs.length := by simpa using h4
 by_cases hc : c.toNat = j
 ·rw [if_pos hc]
  have hfd : comes f (fun y => came y || decide (y = x)) cs.length j = some x.toNat := by
   unfold comes
   have hsome : ∃ y, ((List.range cs.length).find? fun y : Nat => decide (f (y : Int) = some (j : Int)) && (came (y : Int) || decide ((y : Int) = x))) = some y := by
    rw [← Option.isSome_iff_exists, List.find?_isSome]
    refine ⟨x.toNat, List.mem_range.2 (by omega), ?_⟩
    rw [Int.toNat_of_nonneg h0, hx]
    have : c = (j : Int) := by omega
    simp [this]
   obtain ⟨y, hy⟩ := hsome;have hp := List.find?_some hy
   simp only [Bool.and_eq_true, decide_eq_true_eq] at hp
   have hyx := hf.inj (y : Int) x c (by rw [hp.1]; congr 1; omega) hx
   rw [hy]
   congr 1
   omega
  rw [hfd]
  show rd cs (x.toNat : Int) = rd cs x
  rw [Int.toNat_of_nonneg h0]
 ·rw [if_neg hc, List.getElem_map, List.getElem_range]
  have he : comes f (fun y => came y || decide (y = x)) cs.length j = comes f came cs.length j := by
   unfold comes
   congr 1
   funext y
   by_cases hyx : (y : Int) = x
   ·have : ¬ f (y : Int) = some (j : Int) := by
     rw [hyx, hx]
     intro e;have := Option.some.inj e
     omega
    rw [decide_eq_false this]
    rfl
   ·show (decide (f (y : Int) = some (j : Int)) && (came (y : Int) || decide ((y : Int) = x))) = _
    rw [decide_eq_false hyx, Bool.or_false]
  rw [he]
theorem laid_skip (cs em : List Int) (f : Int → Option Int) (came : Int → Bool) (x : Int) (hx : f x = none) : laidCells cs em f (fun y => came y || decide (y = x)) = laidCells cs em f came := by
 unfold laidCells
 congr 1
 funext j
 have he : comes f (fun y => came y || decide (y = x)) cs.length j = comes f came cs.length j := by
  unfold comes
  congr 1
  funext y
  show (decide (f (y : Int) = some (j : Int)) && (came (y : Int) || decide ((y : Int) = x))) = _
  by_cases hyx : (y : Int) = x
  ·rw [hyx, hx]
   rfl
  ·rw [decide_eq_false hyx, Bool.or_false]
 rw [he]
theorem find_congr {α : Type} {p q : α → Bool} : ∀ (l : List α), (∀ x ∈ l, p x = q x) → l.find? p = l.find? q
 | [], _ => rfl
 | a :: l, h => by
  rw [List.find?_cons, List.find?_cons, h a List.mem_cons_self, find_congr l fun x hx => h x (List.mem_cons_of_mem _ hx)]
theorem laid_congr (cs em : List Int) (f g : Int → Option Int) (ca cb : Int → Bool) (h : ∀ x : Nat, x < cs.length → f (x : Int) = g (x : Int) ∧ (f (x : Int) ≠ none → ca (x : Int) = cb (x : Int))) : laidCells cs em f ca = laidCells cs em g cb := by
 unfold laidCells
 congr 1
 funext j
 have he : comes f ca cs.length j = comes g cb cs.length j := by
  unfold comes
  refine find_congr _ fun x hx => ?_
  obtain ⟨h1, h2⟩ := h x (List.mem_range.1 hx)
  rw [← h1]
  by_cases h3 : f (x : Int) = some (j : Int)
  ·rw [h2 (by rw [h3]; simp)]
  ·rw [decide_eq_false h3]
   rfl
 rw [he]
theorem laid_at (cs em : List Int) (f : Int → Option Int) (hf : Fits f cs.length) (x c : Int) (hx : f x = some c) : rd (laidCells cs em f fun _ => true) c = rd cs x := by
 have h := laid_step cs em f (fun _ => true) hf x c hx;obtain ⟨h0, h1, h2, h3⟩ := hf.dom x c hx
 have e : (fun y : Int => (fun _ : Int => true) y || decide (y = x)) = fun _ => true := by
  funext y
  rfl
 rw [e] at h
 rw [h]
 unfold rd
 rw [List.getD_eq_getElem?_getD, List.getElem?_set, if_pos rfl, laid_len, if_pos (by omega)]
 rfl
theorem laid_off (cs em : List Int) (f : Int → Option Int) (came : Int → Bool) (c : Nat) (hc : c < cs.length) (hx : ∀ x : Nat, x < cs.length → f (x : Int) ≠ some (c : Int)) : rd (laidCells cs em f came) (c : Int) = rd em (c : Int) := by
 have h1 : comes f came cs.length c = none := by
  unfold comes
  rw [List.find?_eq_none]
  intro x hx2
  rw [decide_eq_false (hx x (List.mem_range.1 hx2))]
  simp
 have h2 : (laidCells cs em f came)[c]? = some (rd em (c : Int)) := by
  unfold laidCells
  rw [List.getElem?_map, List.getElem?_range hc]
  show some (match comes f came cs.length c with | some x => rd cs (x : Int) | none => rd em (c : Int)) = _
  rw [h1]
 show (laidCells cs em f came).getD (Int.toNat (c : Int)) 0 = _
 rw [Int.toNat_natCast, List.getD_eq_getElem?_getD, h2]
 rfl
end Go.Proofs.YtkjlfgceodindaaDoor.Q
end
section
namespace Go.Proofs.YtkjlfgceodindaaDoor.Q
set_option linter.unusedSectionVars false
open Go.RowKit Go.Proofs.YtkjlfgceodindaaDoorW.PrintWords Go.Proofs.YtkjlfgceodindaaDoorW.PrintLast Go.Proofs.YtkjlfgceodindaaDoorW.PrintMore
theorem lk_same (x y : Int) : (lk x).sameKey (lk y) = decide (x = y) := by
 by_cases h : x = y
 ·rw [h, WideAt.sameKey_self (lk_key y)]
  simp
 ·rw [Maps.sameKey_ne (lk_ne h)]
  simp [h]
def cameL (left : Lit → Bool) (x : Int) : Bool := !left (lk x)
theorem came_start {D : DataW Unit} {f : Int → Option Int} (h : Holds D f) (cs em : List Int) (hl : em.length = cs.length) : laidCells cs em f (cameL (Maps.has D)) = em := by
 refine Eq.trans (laid_congr cs em f f _ (fun _ => false) fun x _ => ⟨rfl, fun hx => ?_⟩) (laid_none cs em f hl)
 unfold cameL
 rw [h.has']
 cases e : f (x : Int) with
 | none => exact absurd e hx
 | some c => rfl
theorem came_end (left : Lit → Bool) (h : ∀ kl, left kl = false) : cameL left = fun _ => true := by
 funext x
 unfold cameL
 rw [h]
 rfl
theorem came_step (left : Lit → Bool) (x : Int) : cameL (fun z => left z && !z.sameKey (lk x)) = fun y => cameL left y || decide (y = x) := by
 funext y
 unfold cameL
 show (!(left (lk y) && !(lk y).sameKey (lk x))) = _
 rw [lk_same]
 cases left (lk y) <;> cases decide (y = x) <;> rfl
theorem Holds.some {D : DataW Unit} {f : Int → Option Int} (h : Holds D f) {x c : Int} (ha : ∀ zd, D.atKey (lk x) zd = .lit (lk c)) : f x = some c := by
 have h1 := ha .nil
 rw [h.at'] at h1
 cases e : f x with
 | none =>
  rw [e] at h1
  cases h1
 | some c' =>
  rw [e] at h1
  injection h1 with h2
  injection h2 with h3 h4
  rw [h4]
theorem EM.turn {w W W1 : World} {gr go gb n c : Nat} {a b : Int} {xs : List Int} (h : EM w W gr go gb a b n c xs) {r : Nat} (hg : W.grownBy W1 (some r)) (hr : w.heap.size ≤ r) (hn : NC W r) : EM w W1 gr go gb a b n c xs :=
 ⟨h.below.grown hg h.below.size (fun k e => by cases e; exact hr), blk_turn h.res hg hn, blk_turn h.out hg hn, R_turn h.row hg hn, h.gr0, h.go0, h.gb0, h.ne, h.len⟩
set_option maxHeartbeats 16000000 in
set_option maxRecDepth 100000 in
theorem carried_calls (a0_0 a0_1 : Int) (A0_2 : Option Addr) (c0_2 : Nat) (l0_2 : List Int) (bm n : Nat) (f : Int → Option Int) (w : World) (hr0_2 : Kd.C (Kd.int .u8) w A0_2 l0_2.length l0_2) (hc0_2 : l0_2.length ≤ c0_2) (hl : 0 < l0_2.length ∧ l0_2.length ≤ 1000) (hm : MP w bm n f) (hf : Fits f l0_2.length) :
  Calls Tryd.prog 75 #[.agg #[.int .i64 a0_0, .int .i64 a0_1, .slice A0_2 l0_2.length c0_2], .map (some bm)] w fun e w' => ∃ v2_ : Value, e = .returned (.agg #[.int .i64 a0_0, .int .i64 a0_1, v2_]) ∧ Kd.R (Kd.int .u8) 5 w' w.heap.size (fun _ => True) v2_ (laidCells l0_2 (emptyC l0_2) f fun _ => true) ∧ Below w.heap.size w w' := by
 have hu := Tryd.underlying41;have HR := Aside0.mk hr0_2;have HC := Aside0.mk hc0_2;have HL := Aside0.mk hl;have HF := Aside0.mk hf;have HV := Aside0.mk (show impl_tray_emptied.f a0_0 a0_1 l0_2 = some (a0_0, a0_1, emptyC l0_2) from if_pos hl)
 have hel : (emptyC l0_2).length = l0_2.length := by unfold emptyC; rw [List.length_map]
 obtain ⟨D, hown, hh⟩ := hm;have MPD := Aside0.mk hown;have HH := Aside0.mk hh;obtain ⟨ad, ead, _⟩ := Kd.at_int hr0_2 0 (by omega) (by omega)
 cases ead
 generalize hem : emptyC l0_2 = em at HV hel ⊢;have HEL := Aside0.mk hel;clear hr0_2 hc0_2 hl hown hh hf hem hel
 go_enter Tryd.func75, Tryd.ntmps75
 go_wp2_with (first
  | ((with_reducible refine gate_dst (N := 2) rfl ?_); refine box_event ?hg (N := 2) ?hd (cs := #[.int .i64 a0_0, .int .i64 a0_1, .slice (some ad) l0_2.length c0_2]) (t := 41) ?hr ?_; (case hd => rfl); (case hg => rfl); (case hr => first | (go_simp; done) | (go_simp; rfl)); intro gt hg w1 hbox hb; (have HB1 := Aside0.mk hb); (have HT := Aside0.mk hbox); clear hbox hb hg)
  | ((with_reducible refine gate_dst (N := 4) rfl ?_); refine box_event ?hg (N := 4) ?hd (cs := #[.int .i64 0, .int .i64 0, .slice none 0 0]) (t := 41) ?hr ?_; (case hd => rfl); (case hg => rfl); (case hr => first | (go_simp; done) | (go_simp; rfl)); intro gr hg w2 hbox hb; (have HG2 := Aside0.mk (show w.heap.size ≤ gr by rw [hg]; exact HB1.out.size)); (have HB2 := Aside0.mk (below_then HB1.out HB1.out.size hb)); (have HT2 := Aside0.mk ((hb.block gt (blk_lt HT.out)).trans HT.out)); (have HRS := Aside0.mk hbox); (have z0 := (blk_cell HT2.out 0).trans rfl); (have z1 := (blk_cell HT2.out 1).trans rfl); (have z2 := (blk_cell HT2.out 2).trans rfl); clear hbox hb hg HT HB1))
 refine (impl_tray_emptied.calls a0_0 a0_1 _ c0_2 l0_2 a0_0 a0_1 em _ (Kd.C_below HR.out HB2.out) HC.out HV.out).mono ?_
 rintro e w3 ⟨v2, rfl, ho, hb3⟩
 have hen : em.length = l0_2.length := HEL.out;obtain ⟨gb, c, rfl, hgb, hlb, cl, hcl⟩ := Kd.R_form ho (by have := HL.out; omega)
 rw [hen] at ho
 have HB3 := Aside0.mk (below_then HB2.out HB2.out.size hb3);have HRS3 := Aside0.mk ((hb3.block gr (blk_lt HRS.out)).trans HRS.out);have HT3 := Aside0.mk ((hb3.block gt (blk_lt HT2.out)).trans HT2.out);have HO3 := Aside0.mk (Kd.R_lower ho HB2.out.size);have HGB := Aside0.mk (Nat.le_trans HB2.out.size hgb);clear z0 z1 z2 HT2 HRS HB2 ho hb3 hgb hlb hcl;have HEMR := Aside0.mk (came_start HH.out l0_2 em hen)
 go_wp2_with (first
  | ((with_reducible refine gate_dst (N := 5) rfl ?_); refine box_event ?hg (N := 5) ?hd (cs := #[.int .i64 0, .int .i64 0, .slice none 0 0]) (t := 41) ?hr ?_; (case hd => rfl); (case hg => rfl); (case hr => first | (go_simp; done) | (go_simp; rfl)); intro go hg w4 hbox hb; (have HGO := Aside0.mk (show w.heap.size ≤ go by rw [hg]; exact HB3.out.size)); (have HNE := Aside0.mk (show gr ≠ go by rw [hg]; exact Nat.ne_of_lt (blk_lt HRS3.out))); (have HNT := Aside0.mk (show gt ≠ go by rw [hg]; exact Nat.ne_of_lt (blk_lt HT3.out))); (have HB4 := Aside0.mk (below_then HB3.out HB3.out.size hb)); (have HRS4 := Aside0.mk ((hb.block gr (blk_lt HRS3.out)).trans HRS3.out)); (have HT4 := Aside0.mk ((hb.block gt (blk_lt HT3.out)).trans HT3.out)); (have HO4 := Aside0.mk (Kd.R_below HO3.out hb)); (have HU := Aside0.mk hbox); (have y0 := (blk_cell HU.out 0).trans rfl); (have y1 := (blk_cell HU.out 1).trans rfl); (have y2 := (blk_cell HU.out 2).trans rfl); (have f0 := blk_frozen HU.out 0); (have f1 := blk_frozen HU.out 1); (have f2 := blk_frozen HU.out 2); clear hbox hb hg HB3 HRS3 HT3 HO3)
  | ((with_reducible refine gate_store (t := 41) (p := 5) rfl ?_); refine store_event (t := 41) (p := 5) (v := ?vo) (w1 := (((w4.setCell ⟨go, 0, none⟩ (.int .i64 a0_0)).setCell ⟨go, 1, none⟩ (.int .i64 a0_1)).setCell ⟨go, 2, none⟩ (.slice (some ⟨gb, 0, none⟩) l0_2.length c))) ?hg ?ho ?hn ?hr ?_; (case ho => rfl); (case hg => rfl); (case hn => rfl); (case hr => first | (go_simp; done) | (go_simp; rfl)); intro w5 hw; (have HE := Aside0.mk (show EM w w5 gr go gb a0_0 a0_1 l0_2.length c em from by rw [hw]; exact ⟨below_set (below_set (below_set HB4.out HGO.out) HGO.out) HGO.out, blk_far (blk_far (blk_far HRS4.out HNE.out _) HNE.out _) HNE.out _, (by refine blk_put (cs := #[.int .i64 a0_0, .int .i64 a0_1, .slice none 0 0]) ?_ 2 _ rfl; refine blk_put (cs := #[.int .i64 a0_0, .int .i64 0, .slice none 0 0]) ?_ 1 _ rfl; refine blk_put (cs := #[.int .i64 0, .int .i64 0, .slice none 0 0]) ?_ 0 _ rfl; exact HU.out), Kd.R_mono (Kd.R_far (p := ⟨go, 2, none⟩) (Kd.R_far (p := ⟨go, 1, none⟩) (Kd.R_far (p := ⟨go, 0, none⟩) (Kd.R_types HO4.out HU.out (by decide)) (fun _ hk => hk.2) (.int .i64 a0_0)) (fun _ hk => hk.2) (.int .i64 a0_1)) (fun _ hk => hk.2) (.slice (some ⟨gb, 0, none⟩) l0_2.length c)) (fun _ _ => trivial), HG2.out, HGO.out, HGB.out, HNE.out, HEL.out⟩)); (have HT5 := Aside0.mk (show w5.heap[gt]? = some (.cells #[.int .i64 a0_0, .int .i64 a0_1, .slice (some ad) l0_2.length c0_2] 41 (0, 0)) from by rw [hw]; exact blk_far (blk_far (blk_far HT4.out HNT.out _) HNT.out _) HNT.out _)); clear hw HU HO4 HRS4 HT4 HB4 y0 y1 y2 f0 f1 f2)
  | (at_range; refine wpList_range_own _ rfl _ 103 rfl 3 3 keyI Tryd.underlying103 PE bm n D rfl (MPD.out.kept (grown_of_below HE.out.below none) (by simp)) ?_; intro w6 hrg hg6 hs6; (have HRG := Aside0.mk hrg); (have HE6 := Aside0.mk (HE.out.step (below_none hg6))); (have HT6 := Aside0.mk (((below_none hg6).block gt (blk_lt HT5.out)).trans HT5.out)); (have HRB := Aside0.mk HE.out.below.size); clear hrg hg6 hs6 HE HT5))
 go_frame
 generalize w5.heap.size = ri at HRG HRB ⊢;have HE7 := Aside0.mk (show EM w w6 gr go gb a0_0 a0_1 l0_2.length c (laidCells l0_2 em f (cameL (Maps.has D))) by rw [HEMR.out]; exact HE6.out);have HLL := Aside0.mk (show ∀ ca, (laidCells l0_2 em f ca).length = l0_2.length from fun ca => laid_len _ _ _ _);clear HE6 HEMR
 go_loopg [] (Maps.size D) (fun gg wr => ∃ (left : Lit → Bool) (cnt : Nat), Aside0 (cnt ≤ gg) ∧ Aside0 (wr.ranges Tryd.prog 3 PE bm ri n D left cnt) ∧ Aside0 (EM w wr gr go gb a0_0 a0_1 l0_2.length c (laidCells l0_2 em f (cameL left))) ∧ Aside0 (wr.heap[gt]? = some (.cells #[.int .i64 a0_0, .int .i64 a0_1, .slice (some ad) l0_2.length c0_2] 41 (0, 0))))
 case atStart => exact ⟨_, _, ⟨Nat.le_refl _⟩, HRG, HE7, HT6⟩
 case round =>
  clear HRG HE7 HT6;obtain ⟨left, cnt, HCN, HRG, HE, HT⟩ := hrel
  go_wp2_with (first
   | (at_next; refine wpList_next_ranges_ii _ rfl _ rfl 3 3 .i64 .i64 keyI Tryd.underlying3 Tryd.underlying3 bm ri n _ _ _ rfl HRG.out ?_ ?_))
  ·intro _ hl0
   have HE2 := Aside0.mk (show EM w wr gr go gb a0_0 a0_1 l0_2.length c (laidCells l0_2 em f fun _ => true) by rw [← came_end left hl0]; exact HE.out);clear HE HCN HRG hl0 HT;have y0 := (blk_cell HE2.out.out 0).trans rfl;have y1 := (blk_cell HE2.out.out 1).trans rfl;have y2 := (blk_cell HE2.out.out 2).trans rfl;have r0 := (blk_cell HE2.out.res 0).trans rfl;have r1 := (blk_cell HE2.out.res 1).trans rfl;have r2 := (blk_cell HE2.out.res 2).trans rfl;have g0 := blk_frozen HE2.out.res 0;have g1 := blk_frozen HE2.out.res 1;have g2 := blk_frozen HE2.out.res 2
   go_wp2_with fail
   refine bodyPost_ret (results_cell_row rfl _ _ gr 41 #[.int .i64 a0_0, .int .i64 a0_1, .slice (some ⟨gb, 0, none⟩) l0_2.length c] (0, 0) _ rfl (by refine blk_put (cs := #[.int .i64 a0_0, .int .i64 a0_1, .slice none 0 0]) ?_ 2 _ rfl; refine blk_put (cs := #[.int .i64 a0_0, .int .i64 0, .slice none 0 0]) ?_ 1 _ rfl; refine blk_put (cs := #[.int .i64 0, .int .i64 0, .slice none 0 0]) ?_ 0 _ rfl; exact HE2.out.res) Tryd.underlying41 rfl (by kernel_rfl)) rfl ?_
   exact ⟨_, rfl, Kd.R_mono (Kd.R_far (p := ⟨gr, 2, none⟩) (Kd.R_far (p := ⟨gr, 1, none⟩) (Kd.R_far (p := ⟨gr, 0, none⟩) (Kd.R_types HE2.out.row HE2.out.res (by decide)) (fun _ hk => hk.2) (.int .i64 a0_0)) (fun _ hk => hk.2) (.int .i64 a0_1)) (fun _ hk => hk.2) (.slice (some ⟨gb, 0, none⟩) l0_2.length c)) (fun _ _ => trivial), below_set (below_set (below_set HE2.out.below HE2.out.gr0) HE2.out.gr0) HE2.out.gr0⟩
  ·intro x cx w7 cnt1 hwx hwc hlx hat hrg1 hlt hg1 hs1 hen1
   have hfx := HH.out.some hat;obtain ⟨x0, x1, cx0, cx1⟩ := HF.out.dom x cx hfx;have HE7 := Aside0.mk (HE.out.turn hg1 HRB.out (ranges_nc HRG.out));have HT7 := Aside0.mk (blk_turn HT.out hg1 (ranges_nc HRG.out));have HRG7 := Aside0.mk hrg1;have HCN7 := Aside0.mk (show cnt1 < gk by have := HCN.out; omega);have hst := laid_step l0_2 em f (cameL left) HF.out x cx hfx
   rw [← came_step left x] at hst
   have HST := Aside0.mk (show laidCells l0_2 em f (cameL fun z => left z && !z.sameKey (.int .i64 x)) = (laidCells l0_2 em f (cameL left)).set cx.toNat (rd l0_2 x) from hst);have HTB := Aside0.mk (show gt ≠ gb from fun e => Kd.R_ne HE7.out.row HT7.out (by decide) (by rw [e]; rfl));clear hst hfx hat hrg1 hlt hg1 hs1 HE HT HRG HCN hlx hwx hwc;have y0 := (blk_cell HE7.out.out 0).trans rfl;have y1 := (blk_cell HE7.out.out 1).trans rfl;have y2 := (blk_cell HE7.out.out 2).trans rfl;have z0 := (blk_cell HT7.out 0).trans rfl;have z1 := (blk_cell HT7.out 1).trans rfl;have z2 := (blk_cell HT7.out 2).trans rfl;have p1 : (0 ≤ x) = True := eq_true x0;have p2 : (x < (l0_2.length : Int)) = True := eq_true x1;have p3 : (0 ≤ cx) = True := eq_true cx0;have p4 : (cx < (l0_2.length : Int)) = True := eq_true cx1;obtain ⟨ad7, ead7, hx7⟩ := Kd.at_int (Kd.C_below HR.out HE7.out.below) x x0 x1
   cases ead7
   obtain ⟨_, fz⟩ := Kd.R_celln 0 HE7.out.row cx cx0 (by have e := HLL.out (cameL left); omega)
   go_wp2
   go_region
   go_wp2
   go_roundg cnt1
   case measure => exact HCN7.out
   case rel =>
    refine ⟨_, cnt1, ⟨Nat.le_refl _⟩, ⟨ranges_drew (ranges_set HRG7.out (R_nc HE7.out.row (ranges_mnc HRG7.out)) (R_nc HE7.out.row (ranges_nc HRG7.out)) _ _)⟩, ?_, ⟨blk_far HT7.out HTB.out _⟩⟩
    rw [HST.out]
    exact ⟨(HE7.out.set cx (rd l0_2 x)).step (Below.drew (Below.refl _ _))⟩
end Go.Proofs.YtkjlfgceodindaaDoor.Q
end
section
namespace Go.Proofs.YtkjlfgceodindaaDoor.Q
set_option linter.unusedSectionVars false
open Go.RowKit Go.Proofs.YtkjlfgceodindaaDoorW.PrintWords Go.Proofs.YtkjlfgceodindaaDoorW.PrintLast Go.Proofs.YtkjlfgceodindaaDoorW.PrintMore
def asF : List (Int × Int) → Int → Option Int
 | [] => fun _ => none
 | (k, v) :: l => upd (asF l) k v
def fitsB (m : List (Int × Int)) (n : Nat) : Bool := m.all (fun p => decide (0 ≤ p.1) && decide (p.1 < (n : Int)) && decide (0 ≤ p.2) && decide (p.2 < (n : Int))) && m.all (fun p => m.all fun q => !decide (p.2 = q.2) || decide (p.1 = q.1))
theorem asF_mem : ∀ (m : List (Int × Int)) (x c : Int), asF m x = some c → (x, c) ∈ m
 | [], x, c, h => by cases h
 | (k, v) :: m, x, c, h => by
  unfold asF upd at h
  by_cases e : x = k
  ·rw [if_pos e] at h
   rw [e, ← Option.some.inj h]
   exact List.mem_cons_self
  ·rw [if_neg e] at h
   exact List.mem_cons_of_mem _ (asF_mem m x c h)
theorem wpList_put {P : Program} {ops : Array Oper} {rest : List Oper} {o : Oper} {a : Act} {Q : Exit → Act → World → Prop} (hP : P = Tryd.prog) (w : World) (hg : o.guard = none) (m x v : Operand) (t : TypeId) (hop : o.op = .mapUpdate t m x v) (ht : Tryd.prog.underlying t = some (.map 3 3))
  (b n : Nat) (f : Int → Option Int) (h : MP w b n f) (hn : n < 1000000) (kx c : Int) (hm : a.eval m = .map (some b)) (hx : a.eval x = .int .i64 kx) (hv : a.eval v = .int .i64 c) (hb : 0 ≤ kx ∧ kx ≤ 1000000 ∧ 0 ≤ c ∧ c ≤ 1000000)
  (hK : ∀ w', MP w' b (n + 1) (upd f kx c) → w.grownBy w' (some b) → wpList P ops Q rest (a.put o.dst undef) w') : wpList P ops Q (o :: rest) a w := by
 subst hP;obtain ⟨D, hown, hh⟩ := h
 exact wpList_mapUpdate_own w hg m x v t hop 3 3 keyI ht PE b n D hm hown (by unfold maxLen; omega) _ _ (lk kx) hx hv (Maps.keyOf_int_mk Tryd.underlying3 (lk_wf hb.1 hb.2.1)) (.lit (lk c)) [] (pe_int (lk_wf hb.2.2.1 hb.2.2.2)) fun w' h1 h2 => hK w' ⟨_, h1, hh.put kx c⟩ h2
section
variable {α : Type} {d : Kd α} {e base b n : Nat} {ok : Nat → Prop} {w w1 : World} {v : Value} {xs : List α} {f : Int → Option Int}
theorem S_turn (h : Kd.S d e w base ok v xs) {r : Nat} (hg : w.grownBy w1 (some r)) (hn : NC w r) : Kd.S d e w1 base ok v xs := by
 obtain ⟨g, h⟩ := h
 exact ⟨g, R_turn h hg hn⟩
theorem S_blw (h : Kd.S d e w base ok v xs) (hb : Below w.heap.size w w1) : Kd.S d e w1 base ok v xs := by
 obtain ⟨g, h⟩ := h
 exact ⟨g, Kd.R_below h hb⟩
theorem S_fr (h : Kd.S d e w base ok v xs) {p : Addr} (hok : ∀ k, ok k → k ≠ p.block) (u : Value) : Kd.S d e (w.setCell p u) base ok v xs := by
 obtain ⟨g, h⟩ := h
 exact ⟨g, Kd.R_far h hok u⟩
theorem S_tys (h : Kd.S d e w base ok v xs) {g t : Nat} {cells : Array Value} (hb : w.heap[g]? = some (.cells cells t (0, 0))) (ht : ∀ q, q ∈ e :: d.E → q ≠ t) : Kd.S d e w base (fun k => ok k ∧ k ≠ g) v xs := by
 obtain ⟨f, h⟩ := h
 exact ⟨f, Kd.R_types h hb ht⟩
theorem MP.row (h : MP w b n f) (hr : Kd.R d e w base ok v xs) (hg : w.grownBy w1 v.ownBlock) : MP w1 b n f :=
 h.kept hg fun he => by
  obtain ⟨_, _, _, q, _, cells, hc⟩ := (Kd.R_bound hr).1 b he.symm
  exact h.nc _ _ _ hc
end
end Go.Proofs.YtkjlfgceodindaaDoor.Q
end
section
namespace Go.Proofs.YtkjlfgceodindaaDoor.Q
set_option linter.unusedSectionVars false
open Go.RowKit Go.Proofs.YtkjlfgceodindaaDoorW.PrintWords Go.Proofs.YtkjlfgceodindaaDoorW.PrintLast Go.Proofs.YtkjlfgceodindaaDoorW.PrintMore
def ssC (w h : Int) (cs : List Int) (dir : Int) (st : Bool) : List Int → List Int → List (Int × Int) → Option (List Int × List (Int × Int))
 | [], own, m => some (own, m)
 | x :: l, own, m => (if st = true then some x else impl_tray_ahead.f 1 w h cs x dir).bind fun nx => if 0 ≤ x ∧ x ≤ 1000000 ∧ 0 ≤ nx ∧ nx ≤ 1000000 ∧ m.length < 1000000 ∧ own.length < 1000000 then ssC w h cs dir st l (own ++ [nx]) ((x, nx) :: m) else none
def ssP (w h : Int) (cs : List Int) (dir : Int) (stop : List Bool) : List (List Int) → Nat → List (List Int) → List (Int × Int) → Bool → Option (List (List Int) × List (Int × Int) × Bool)
 | [], _, out, m, mv => some (out, m, mv)
 | p :: P, i, out, m, mv => if i < stop.length ∧ out.length < 1000000 then (ssC w h cs dir (rdOf false stop i) p [] m).bind fun r => ssP w h cs dir stop P (i + 1) (out ++ [r.1]) r.2 (mv || !rdOf false stop i) else none
def impl_tray_stuckStep.f (w h : Int) (cs : List Int) (P : List (List Int)) (dir : Int) : Option (Int × Int × List Int × List (List Int) × Bool) :=
 (impl_tray_blocked.f w h cs P dir).bind fun stop => (ssP w h cs dir stop P 0 [] [] false).bind fun r => if (0 < cs.length ∧ cs.length ≤ 1000) ∧ fitsB r.2.1 cs.length = true then some (w, h, laidCells cs (emptyC cs) (asF r.2.1) (fun _ => true), r.1, r.2.2) else none
theorem fits_of {m : List (Int × Int)} {n : Nat} (h : fitsB m n = true) : Fits (asF m) n := by
 unfold fitsB at h
 rw [Bool.and_eq_true, List.all_eq_true, List.all_eq_true] at h
 refine ⟨fun x c hx => ?_, fun x y c hx hy => ?_⟩
 ·have h1 := h.1 _ (asF_mem m x c hx)
  simp only [Bool.and_eq_true, decide_eq_true_eq] at h1
  omega
 ·have h1 := List.all_eq_true.1 (h.2 _ (asF_mem m x c hx)) _ (asF_mem m y c hy)
  simpa using h1
set_option maxHeartbeats 16000000 in
set_option maxRecDepth 100000 in
theorem impl_tray_stuckStep.calls (a0_0 a0_1 : Int) (A0_2 : Option Addr) (c0_2 : Nat) (l0_2 : List Int) (A1 : Option Addr) (c1 : Nat) (l1 : List (List Int)) (a2 : Int) (r1 r2 : Int) (r3 : List Int) (r4 : List (List Int)) (r5 : Bool) (w : World) (hr0_2 : Kd.C (Kd.int .u8) w A0_2 l0_2.length l0_2) (hc0_2 : l0_2.length ≤ c0_2)
  (hr1 : Kd.C (Kd.slice 3 (Kd.int .i64)) w A1 l1.length l1) (hc1 : l1.length ≤ c1) (h : impl_tray_stuckStep.f a0_0 a0_1 l0_2 l1 a2 = some (r1, r2, r3, r4, r5)) :
  Calls Tryd.prog 55 #[.agg #[.int .i64 a0_0, .int .i64 a0_1, .slice A0_2 l0_2.length c0_2], .slice A1 l1.length c1, .int .u8 a2] w fun e w' => ∃ v2_ v3_ : Value, e = .returned (.tuple #[.agg #[.int .i64 r1, .int .i64 r2, v2_], v3_, .bool r5]) ∧ Kd.R (Kd.int .u8) 5 w' w.heap.size (fun _ => True) v2_ r3 ∧ Kd.S (Kd.slice 3 (Kd.int .i64)) 33 w' w.heap.size (fun _ => True) v3_ r4 ∧ Below w.heap.size w w' := by
 unfold impl_tray_stuckStep.f at h;obtain ⟨stop, hstop, h⟩ := Option.bind_eq_some_iff.1 h;obtain ⟨⟨out, m, mv⟩, hss, h⟩ := Option.bind_eq_some_iff.1 h
 split at h
 case isFalse => cases h
 rename_i hcond
 simp only [Option.some.injEq, Prod.mk.injEq] at h
 obtain ⟨rfl, rfl, rfl, rfl, rfl⟩ := h
 have hsm : smallP l1 = true := by
  have h1 := hstop;unfold impl_tray_blocked.f at h1
  split at h1
  ·rename_i h2
   exact h2
  ·cases h1
 simp only [smallP, Bool.and_eq_true, decide_eq_true_eq, List.all_eq_true] at hsm
 have HSMP := Aside0.mk hsm;clear hsm;have HR := Aside0.mk hr0_2;have HC := Aside0.mk hc0_2;have HR1 := Aside0.mk hr1;have HC1 := Aside0.mk hc1;have HST := Aside0.mk hstop;have HSS := Aside0.mk hss;have HCD := Aside0.mk hcond;have hu := Tryd.underlying41;clear hr0_2 hc0_2 hr1 hc1 hstop hss hcond
 go_enter Tryd.func55, Tryd.ntmps55
 go_wp2_with (first
  | ((with_reducible refine gate_dst (N := 3) rfl ?_); refine box_event ?hg (N := 3) ?hd (cs := #[.int .i64 a0_0, .int .i64 a0_1, .slice A0_2 l0_2.length c0_2]) (t := 41) ?hr ?_; (case hd => rfl); (case hg => rfl); (case hr => first | (go_simp; done) | (go_simp; rfl)); intro gt hg w1 hbox hb; (have HB1 := Aside0.mk hb); (have HT := Aside0.mk hbox); clear hbox hb hg)
  | ((with_reducible refine gate_dst (N := 6) rfl ?_); refine box_event ?hg (N := 6) ?hd (cs := #[.int .i64 0, .int .i64 0, .slice none 0 0]) (t := 41) ?hr ?_; (case hd => rfl); (case hg => rfl); (case hr => first | (go_simp; done) | (go_simp; rfl)); intro gr hg w2 hbox hb; (have HG2 := Aside0.mk (show w.heap.size ≤ gr by rw [hg]; exact HB1.out.size)); (have HB2 := Aside0.mk (below_then HB1.out HB1.out.size hb)); (have HT2 := Aside0.mk ((hb.block gt (blk_lt HT.out)).trans HT.out)); (have HRS := Aside0.mk hbox); (have z0 := (blk_cell HT2.out 0).trans rfl); (have z1 := (blk_cell HT2.out 1).trans rfl); (have z2 := (blk_cell HT2.out 2).trans rfl); clear hbox hb hg HT HB1))
 refine (impl_tray_blocked.calls a0_0 a0_1 A0_2 c0_2 l0_2 A1 c1 l1 a2 stop _ (Kd.C_below HR.out HB2.out) HC.out (Kd.C_below HR1.out HB2.out) HC1.out HST.out).mono ?_
 rintro e w3 ⟨v0, rfl, hS, hb3⟩
 obtain ⟨As, cs, rfl, hls, hCs⟩ := Kd.R_reads hS;have HB3 := Aside0.mk (below_then HB2.out HB2.out.size hb3);have HX := Aside0.mk (show Bx w3 gt a0_0 a0_1 A0_2 c0_2 l0_2 from ⟨(blk_cell ((hb3.block gt (blk_lt HT2.out)).trans HT2.out) 0).trans rfl, (blk_cell ((hb3.block gt (blk_lt HT2.out)).trans HT2.out) 1).trans rfl, (blk_cell ((hb3.block gt (blk_lt HT2.out)).trans HT2.out) 2).trans rfl, blk_lt ((hb3.block gt (blk_lt HT2.out)).trans HT2.out), Kd.C_below HR.out HB3.out⟩);have HRS3 := Aside0.mk ((hb3.block gr (blk_lt HRS.out)).trans HRS.out);have HP3 := Aside0.mk (Kd.C_below HR1.out HB3.out);have HSC := Aside0.mk hCs;clear z0 z1 z2 HT2 HRS HB2 hS hb3 hls hCs HST HR HR1;have hmm := run_makeMap (P := Tryd.prog) 103 w3
 go_wp2_with (first
  | ((with_reducible refine gate_dst (N := 24) rfl ?_); refine Kd.S_lit (Kd.slice 3 (Kd.int .i64)) (w0 := w3) w3.heap.size 33 ?hg (N := 24) ?hd (xs := ([] : List (List Int))) (inner := []) (ok := fun _ => True) (okp := fun _ => True) ?hr ?hp (fun _ hk => hk) trivial (below_alloc (Below.refl _ _) _) (below_alloc (Below.refl _ _) _).size (by simp) ?_; (case hd => rfl); (case hg => rfl); (case hr => first | (go_simp; done) | (go_simp; rfl)); (case hp => exact (Reps.none _ _)); intro vo w4 ho hb hg_ hnew_; (have HM4 := Aside0.mk ((MP.made w3).below (below_none hg_))); (have HB4 := Aside0.mk hb); (have HO4 := Aside0.mk ho); clear ho hb hg_ hnew_))
 clear hmm;generalize hbm : w3.heap.size = bm at HM4 ⊢;have HBM := Aside0.mk (show w3.heap.size ≤ bm by rw [hbm]; exact Nat.le_refl _);clear hbm
 go_loopg [11, 12, 27] l1.length (fun gg v11 v12 v27 wr => ∃ (i : Nat) (o1 : List (List Int)) (m1 : List (Int × Int)) (b1 : Bool), v12 = .bool b1 ∧ v27 = .int .i64 i ∧ Aside0 (i ≤ l1.length ∧ l1.length - i ≤ gg ∧ ssP a0_0 a0_1 l0_2 a2 stop (l1.drop i) i o1 m1 b1 = some (out, m, mv)) ∧ Aside0 (MP wr bm m1.length (asF m1)) ∧ Aside0 (Kd.S (Kd.slice 3 (Kd.int .i64)) 33 wr w3.heap.size (fun _ => True) v11 o1) ∧ Aside0 (Below w3.heap.size w3 wr))
 case atStart => exact ⟨0, [], [], false, rfl, rfl, ⟨Nat.zero_le _, Nat.le_refl _, by rw [List.drop_zero]; exact HSS.out⟩, HM4, HO4, HB4⟩
 case round =>
  clear HM4 HO4 HB4 HSS;obtain ⟨i, o1, m1, b1, rfl, rfl, HA, HM, HO, HB⟩ := hrel
  by_cases hli : i < l1.length
  ·have c2 : decide ((i : Int) < (l1.length : Int)) = true := decide_eq_true (by omega)
   have p1 : (0 ≤ (i : Int)) = True := eq_true (by omega);have p2 : ((i : Int) < (l1.length : Int)) = True := eq_true (by omega);have hsp := HA.out.2.2
   rw [drop_get l1 [] i hli] at hsp
   obtain ⟨hcnd, hsp⟩ : (i < stop.length ∧ o1.length < 1000000) ∧ ((ssC a0_0 a0_1 l0_2 a2 (rdOf false stop i) (l1.getD i []) [] m1).bind fun r => ssP a0_0 a0_1 l0_2 a2 stop (l1.drop (i + 1)) (i + 1) (o1 ++ [r.1]) r.2 (b1 || !rdOf false stop i)) = some (out, m, mv) := by
    unfold ssP at hsp
    split at hsp
    ·rename_i hc
     exact ⟨hc, hsp⟩
    ·cases hsp
   obtain ⟨⟨own, m2⟩, hsc, hsp⟩ := Option.bind_eq_some_iff.1 hsp;have HSP := Aside0.mk hsp;have HSC1 := Aside0.mk hsc;have HCN := Aside0.mk hcnd;obtain ⟨ad, Ap, cp, e1, hx4, hlp, hCp⟩ := at_sl HP3.out i hli
   cases e1
   have hx := (HB.out.cell (World.block_lt_of_cell? _ _ hx4)).trans hx4
   have hpm : (l1.getD i []).length ≤ 1000 := by
    refine HSMP.out.2 _ ?_
    rw [List.getD_eq_getElem?_getD, List.getElem?_eq_getElem hli]
    exact List.getElem_mem hli
   generalize l1.getD i [] = pc at hx hCp HSC1 hx4 hlp hsc hpm;have HPM := Aside0.mk hpm;clear hpm;have HCp := Aside0.mk hCp;have HGK2 := Aside0.mk (show l1.length - i ≤ gk ∧ i < l1.length from ⟨HA.out.2.1, hli⟩);clear hsp hsc hlp hCp HA hli hx4 hcnd
   go_wp2_with (first
    | ((with_reducible refine gate_dst (N := 32) rfl ?_); refine Kd.R_lit (Kd.int .i64) (w0 := w3) w3.heap.size 3 ?hg (N := 32) ?hd (xs := ([] : List Int)) (inner := []) (ok := fun _ => True) (okp := fun _ => True) ?hr ?hp (fun _ hk => hk) trivial HB.out HB.out.size (by simp) ?_; (case hd => rfl); (case hg => rfl); (case hr => first | (go_simp; done) | (go_simp; rfl)); (case hp => exact (Reps.none _ _)); intro vw w5 ho hb hg_ hnew_; (have HM5 := Aside0.mk (HM.out.below (below_none hg_))); (have HO5 := Aside0.mk (Kd.S_elder' HO.out (v := vw) (by obtain ⟨b_, e_, h_⟩ := hnew_; intro k_ hk_; rw [e_] at hk_; cases hk_; exact h_) (below_none hg_))); (have HW5 := Aside0.mk ho); (have HB5 := Aside0.mk hb); clear ho hb hg_ hnew_))
   go_loopg [15, 35] pc.length (fun gg v15 v35 wr => ∃ (u : Nat) (ow : List Int) (m3 : List (Int × Int)), v35 = .int .i64 u ∧ Aside0 (u ≤ pc.length ∧ pc.length - u ≤ gg ∧ ssC a0_0 a0_1 l0_2 a2 (rdOf false stop i) (pc.drop u) ow m3 = some (own, m2)) ∧ Aside0 (MP wr bm m3.length (asF m3)) ∧ Aside0 (Kd.S (Kd.slice 3 (Kd.int .i64)) 33 wr w3.heap.size (fun k_ => some k_ ≠ (v15 : Value).ownBlock) u11 o1) ∧ Aside0 (Kd.R (Kd.int .i64) 3 wr w3.heap.size (fun _ => True) v15 ow) ∧ Aside0 (Below w3.heap.size w3 wr))
   case atStart => exact ⟨0, [], m1, rfl, ⟨Nat.zero_le _, by omega, by rw [List.drop_zero]; exact HSC1.out⟩, HM5, ⟨Kd.S_mono HO5.out (fun _ hk => hk.2)⟩, HW5, HB5⟩
   case round =>
    clear HSC1 HM5 HO5 HW5 HB5 hx c2 HM HO HB p1 p2;obtain ⟨u, ow, m3, rfl, HA3, HMX, HOX, HWX, HBX⟩ := hrel;have hin : i < stop.length := HCN.out.1;have p1 : (0 ≤ (i : Int)) = True := eq_true (by omega);have p2 : ((i : Int) < (stop.length : Int)) = True := eq_true (by omega)
    by_cases hlu : u < pc.length
    ·have c3 : decide ((u : Int) < (pc.length : Int)) = true := decide_eq_true (by omega)
     have p3 : (0 ≤ (u : Int)) = True := eq_true (by omega);have p4 : ((u : Int) < (pc.length : Int)) = True := eq_true (by omega);have hbq := HA3.out.2.2
     rw [drop_get pc 0 u hlu] at hbq
     obtain ⟨nx, hnx, hb8⟩ := Option.bind_eq_some_iff.1 (show (if rdOf false stop i = true then some (pc.getD u 0) else impl_tray_ahead.f 1 a0_0 a0_1 l0_2 (pc.getD u 0) a2).bind (fun nx => if 0 ≤ pc.getD u 0 ∧ pc.getD u 0 ≤ 1000000 ∧ 0 ≤ nx ∧ nx ≤ 1000000 ∧ m3.length < 1000000 ∧ ow.length < 1000000 then ssC a0_0 a0_1 l0_2 a2 (rdOf false stop i) (pc.drop (u + 1)) (ow ++ [nx]) ((pc.getD u 0, nx) :: m3) else none) = some (own, m2) from hbq);obtain ⟨ad3, e3, hx3⟩ := Kd.at_int (Kd.C_below HCp.out HBX.out) (u : Int) (by omega) (by omega)
     cases e3
     rw [Int.toNat_natCast] at hx3
     rw [show rd pc (u : Int) = pc.getD u 0 from by unfold rd; rw [Int.toNat_natCast]] at hx3
     generalize pc.getD u 0 = x at hx3 hnx hb8;obtain ⟨ad4, e4, hx4⟩ := Kd.at_bool (Kd.C_below HSC.out HBX.out) (i : Int) (by omega) (by omega)
     cases e4
     rw [Int.toNat_natCast] at hx4
     split at hb8
     case isFalse => cases hb8
     rename_i hchk
     have HGK3 := Aside0.mk (show pc.length - u ≤ gk ∧ u < pc.length from ⟨HA3.out.2.1, hlu⟩);have HLM := Aside0.mk (show m3.length < 1000000 ∧ ow.length < 1000000 ∧ 0 ≤ x ∧ x ≤ 1000000 ∧ 0 ≤ nx ∧ nx ≤ 1000000 from by omega);have HNXT := Aside0.mk hb8;have HNX := Aside0.mk hnx;obtain ⟨z0, z1, z2, _, _⟩ := HX.out.below HBX.out;clear hbq hb8 HA3 hlu hchk hnx
     cases hst : rdOf false stop (i : Int) with
     | true =>
      rw [hst] at hx4
      have hnx := HNX.out
      rw [hst, if_pos rfl] at hnx
      obtain rfl := Option.some.inj hnx;have HST2 := Aside0.mk hst;clear hnx HNX hst
      go_wp2_with (first
       | (at_mapUpdate; go_loud (refine wpList_put rfl _ rfl _ _ _ 103 rfl Tryd.underlying103 bm m3.length (asF m3) HMX.out HLM.out.1 x x rfl rfl rfl HLM.out.2.2 ?_; intro w8 hm8 hg8; (have HM8 := Aside0.mk hm8); (have HW8 := Aside0.mk (R_turn HWX.out hg8 HMX.out.nc)); (have HO8 := Aside0.mk (S_turn HOX.out hg8 HMX.out.nc)); (have HB8 := Aside0.mk (HBX.out.grown hg8 HBX.out.size (fun k e => by cases e; exact HBM.out))); clear HMX HWX HOX HBX hm8 hg8))
       | ((with_reducible refine gate_builtin (b := .append) (xs := #[.tmp 52, .tmp 54]) rfl ?_); at_builtin; refine Kd.R_append (Kd.int .i64) (w0 := w3) w3.heap.size rfl (.tmp 52) (.tmp 54) 33 3 (.int .i64 0) 8 rfl Tryd.underlying33 info3 rfl (by decide) (by omega) u15 ow x [.int .i64 x] (fun _ => True) (fun _ => False) rfl rfl ?aP (fun _ hk => hk.elim) ?aF ?aO ?aB ?aS ?aL ?_; (case aP => exact rfl); (case aB => exact HB8.out); (case aF => exact (fun _ _ => trivial)); (case aO => exact HW8.out); (case aS => exact HB8.out.size); (case aL => have := HLM.out; omega); intro v9 w9 ho hb hg hat; (have HM9 := Aside0.mk (HM8.out.row HW8.out hg)); (have HO9 := Aside0.mk (Kd.S_after (ok := (fun _ => True)) (Kd.S_mono HO8.out (fun _ hk => ⟨trivial, hk⟩)) hg hat)); (have HB9 := Aside0.mk hb); (have HW9 := Aside0.mk ho); clear HM8 HO8 HB8 HW8 ho hb hg hat))
      go_roundg (pc.length - (u + 1))
      case measure => have := HGK3.out; omega
      case rel => exact ⟨u + 1, _, (x, x) :: m3, by first | rfl | rw [wrap64_small u (by have := HGK3.out; have := HPM.out; omega)] | simp, ⟨by have := HGK3.out; omega, Nat.le_refl _, HNXT.out⟩, HM9, ⟨Kd.S_mono HO9.out (fun _ hk => hk.2)⟩, HW9, HB9⟩
     | false =>
      rw [hst] at hx4
      have hnx := HNX.out
      rw [hst, if_neg (by decide)] at hnx
      have HNX2 := Aside0.mk hnx;have HST2 := Aside0.mk hst;clear hnx HNX hst
      go_wp2_with (first
       | (go_at_call 74; refine (impl_tray_ahead.calls 1 a0_0 a0_1 _ c0_2 l0_2 x a2 nx _ (Kd.C_below HX.out.reads HBX.out) HC.out HNX2.out).mono ?_; rintro e w6 ⟨rfl, hb9⟩; (have HM6 := Aside0.mk (HMX.out.below hb9)); (have HW6 := Aside0.mk (Kd.R_below HWX.out hb9)); (have HO6 := Aside0.mk (S_blw HOX.out hb9)); (have HB6 := Aside0.mk (below_then HBX.out HBX.out.size hb9)); clear HMX HWX HOX HBX hb9 hx3 hx4 z0 z1 z2; (have HMX := HM6); (have HWX := HW6); (have HOX := HO6); (have HBX := HB6); clear HM6 HW6 HO6 HB6)
       | (at_mapUpdate; go_loud (refine wpList_put rfl _ rfl _ _ _ 103 rfl Tryd.underlying103 bm m3.length (asF m3) HMX.out HLM.out.1 x nx rfl rfl rfl HLM.out.2.2 ?_; intro w8 hm8 hg8; (have HM8 := Aside0.mk hm8); (have HW8 := Aside0.mk (R_turn HWX.out hg8 HMX.out.nc)); (have HO8 := Aside0.mk (S_turn HOX.out hg8 HMX.out.nc)); (have HB8 := Aside0.mk (HBX.out.grown hg8 HBX.out.size (fun k e => by cases e; exact HBM.out))); clear HMX HWX HOX HBX hm8 hg8))
       | ((with_reducible refine gate_builtin (b := .append) (xs := #[.tmp 52, .tmp 54]) rfl ?_); at_builtin; refine Kd.R_append (Kd.int .i64) (w0 := w3) w3.heap.size rfl (.tmp 52) (.tmp 54) 33 3 (.int .i64 0) 8 rfl Tryd.underlying33 info3 rfl (by decide) (by omega) u15 ow nx [.int .i64 nx] (fun _ => True) (fun _ => False) rfl rfl ?aP (fun _ hk => hk.elim) ?aF ?aO ?aB ?aS ?aL ?_; (case aP => exact rfl); (case aB => exact HB8.out); (case aF => exact (fun _ _ => trivial)); (case aO => exact HW8.out); (case aS => exact HB8.out.size); (case aL => have := HLM.out; omega); intro v9 w9 ho hb hg hat; (have HM9 := Aside0.mk (HM8.out.row HW8.out hg)); (have HO9 := Aside0.mk (Kd.S_after (ok := (fun _ => True)) (Kd.S_mono HO8.out (fun _ hk => ⟨trivial, hk⟩)) hg hat)); (have HB9 := Aside0.mk hb); (have HW9 := Aside0.mk ho); clear HM8 HO8 HB8 HW8 ho hb hg hat))
      go_roundg (pc.length - (u + 1))
      case measure => have := HGK3.out; omega
      case rel => exact ⟨u + 1, _, (x, nx) :: m3, by first | rfl | rw [wrap64_small u (by have := HGK3.out; have := HPM.out; omega)] | simp, ⟨by have := HGK3.out; omega, Nat.le_refl _, HNXT.out⟩, HM9, ⟨Kd.S_mono HO9.out (fun _ hk => hk.2)⟩, HW9, HB9⟩
    ·obtain rfl : u = pc.length := by have := HA3.out.1; omega
     have c3 : decide ((pc.length : Int) < (pc.length : Int)) = false := decide_eq_false (by omega);have he := HA3.out.2.2
     rw [List.drop_length] at he
     obtain ⟨rfl, rfl⟩ : ow = own ∧ m3 = m2 := by
      have h1 := Option.some.inj he
      exact ⟨congrArg Prod.fst h1, congrArg Prod.snd h1⟩
     obtain ⟨ad4, e4, hx4⟩ := Kd.at_bool (Kd.C_below HSC.out HBX.out) (i : Int) (by omega) (by omega)
     cases e4
     rw [Int.toNat_natCast] at hx4
     obtain ⟨Ao, co, eo⟩ := Kd.R_slice HWX.out;subst eo;clear he HA3 hlu
     cases hst : rdOf false stop (i : Int) <;> cases b1 <;> (
      rw [hst] at hx4
      have HSTq := Aside0.mk hst;clear hst
      go_wp2_with (first
       | ((with_reducible refine gate_builtin (b := .append) (xs := #[.tmp 65, .tmp 67]) rfl ?_); at_builtin; refine Kd.S_append (Kd.slice 3 (Kd.int .i64)) (w0 := w3) w3.heap.size rfl (.tmp 65) (.tmp 67) 37 33 (.slice none 0 0) 24 rfl Tryd.underlying37 info33 rfl (by decide) (by omega) u11 o1 ow [.slice Ao ow.length co] (fun _ => True) (fun k_ => some k_ = (.slice Ao ow.length co : Value).ownBlock) rfl rfl ?aP (fun k_ hk_ => ((Kd.R_mono (ok' := fun k_ => True ∧ some k_ ≠ (u11 : Value).ownBlock) (Kd.R_apart' (HWX.out) (Kd.S_typed HOX.out) (by decide)) (fun k_ hk => ⟨trivial, hk.2⟩))).1 k_ hk_.symm) ?aF ?aO ?aB ?aS ?aL ?_; (case aP => exact Kd.M_row (Kd.R_mono (Kd.R_tight rfl (Kd.R_mono (ok' := fun k_ => True ∧ some k_ ≠ (u11 : Value).ownBlock) (Kd.R_apart' (HWX.out) (Kd.S_typed HOX.out) (by decide)) (fun k_ hk => ⟨trivial, hk.2⟩))) (fun _ h_ => h_))); (case aB => exact HBX.out); (case aF => exact (fun _ _ => trivial)); (case aO => exact Kd.S_mono HOX.out (fun k_ hk => ⟨trivial, fun e_ => hk e_⟩)); (case aS => exact HBX.out.size); (case aL => have := HCN.out; omega); intro v9 w9 ho hb hg hat; (have HM9 := Aside0.mk (HMX.out.row (Kd.S_R HOX.out) hg)); (have HB9 := Aside0.mk hb); (have HO9 := Aside0.mk ho); clear HMX HOX HBX HWX ho hb hg hat))
      go_roundg (l1.length - (i + 1))
      case measure => have := HGK2.out; omega
      case rel => exact ⟨i + 1, _, _, _, by first | rfl | simp, by first | rfl | rw [wrap64_small i (by have := HGK2.out; have := HSMP.out.1; omega)] | simp, ⟨by have := HGK2.out; omega, Nat.le_refl _, by have h1 := HSP.out; rw [HSTq.out] at h1; exact h1⟩, HM9, HO9, HB9⟩)
  ·obtain rfl : i = l1.length := by have := HA.out.1; omega
   have c2 : decide ((l1.length : Int) < (l1.length : Int)) = false := decide_eq_false (by omega);have he := HA.out.2.2
   rw [List.drop_length] at he
   obtain ⟨rfl, rfl, rfl⟩ : o1 = out ∧ m1 = m ∧ b1 = mv := by
    have h1 := Option.some.inj he
    exact ⟨congrArg Prod.fst h1, congrArg (fun z => z.2.1) h1, congrArg (fun z => z.2.2) h1⟩
   obtain ⟨z0, z1, z2, _, _⟩ := HX.out.below HB.out;have HRd := Aside0.mk (Kd.C_below HX.out.reads HB.out);clear he HA hli
   go_wp2_with fail
   refine (carried_calls a0_0 a0_1 A0_2 c0_2 l0_2 bm m1.length (asF m1) _ HRd.out HC.out HCD.out.1 HM.out (fits_of HCD.out.2)).mono ?_
   rintro e w9 ⟨v2, rfl, hr, hb9⟩
   have HO9 := Aside0.mk (Kd.S_mono (S_blw HO.out hb9) (fun _ _ => trivial));have HR9 := Aside0.mk (Kd.R_lower hr (Nat.le_trans HB3.out.size HB.out.size));have HG9 := Aside0.mk ((hb9.block gr (Nat.lt_of_lt_of_le (blk_lt HRS3.out) HB.out.size)).trans ((HB.out.block gr (blk_lt HRS3.out)).trans HRS3.out));have HB9 := Aside0.mk (below_then HB3.out HB3.out.size (below_then HB.out HB.out.size hb9));obtain ⟨Ar, cr, rfl⟩ := Kd.R_slice HR9.out;have hll : (laidCells l0_2 (emptyC l0_2) (asF m1) fun _ => true).length = l0_2.length := laid_len _ _ _ _;generalize hcr : (laidCells l0_2 (emptyC l0_2) (asF m1) fun _ => true) = lr at HR9 hll ⊢;have HCR := Aside0.mk hcr;clear hr hb9 HO HM HB z0 z1 z2 hcr hll;have g0 := blk_frozen HG9.out 0;have g1 := blk_frozen HG9.out 1;have g2 := blk_frozen HG9.out 2;have r0 := (blk_cell HG9.out 0).trans rfl;have r1 := (blk_cell HG9.out 1).trans rfl;have r2 := (blk_cell HG9.out 2).trans rfl
   go_wp2_with fail
   refine bodyPost_ret (results_ctt rfl _ _ gr 41 #[.int .i64 a0_0, .int .i64 a0_1, .slice Ar lr.length cr] (0, 0) _ rfl (by refine blk_put (cs := #[.int .i64 a0_0, .int .i64 a0_1, .slice none 0 0]) ?_ 2 _ rfl; refine blk_put (cs := #[.int .i64 a0_0, .int .i64 0, .slice none 0 0]) ?_ 1 _ rfl; refine blk_put (cs := #[.int .i64 0, .int .i64 0, .slice none 0 0]) ?_ 0 _ rfl; exact HG9.out) Tryd.underlying41 rfl (by kernel_rfl)) rfl ?_
   exact ⟨_, _, rfl, by rw [HCR.out]; exact Kd.R_mono (Kd.R_far (p := ⟨gr, 2, none⟩) (Kd.R_far (p := ⟨gr, 1, none⟩) (Kd.R_far (p := ⟨gr, 0, none⟩) (Kd.R_types HR9.out HG9.out (by decide)) (fun _ hk => hk.2) (.int .i64 a0_0)) (fun _ hk => hk.2) (.int .i64 a0_1)) (fun _ hk => hk.2) (.slice Ar lr.length cr)) (fun _ _ => trivial), Kd.S_mono (S_fr (p := ⟨gr, 2, none⟩) (S_fr (p := ⟨gr, 1, none⟩) (S_fr (p := ⟨gr, 0, none⟩) (S_tys (Kd.S_lower HO9.out HB3.out.size) HG9.out (by decide)) (fun _ hk => hk.2) (.int .i64 a0_0)) (fun _ hk => hk.2) (.int .i64 a0_1)) (fun _ hk => hk.2) (.slice Ar lr.length cr)) (fun _ _ => trivial), below_set (below_set (below_set HB9.out HG2.out) HG2.out) HG2.out⟩
end Go.Proofs.YtkjlfgceodindaaDoor.Q
end
section
namespace Go.Proofs.YtkjlfgceodindaaDoor.Q
open Go.RowKit Go.Proofs.YtkjlfgceodindaaDoorW.PrintWords Go.Proofs.YtkjlfgceodindaaDoorW.PrintLast Go.Proofs.YtkjlfgceodindaaDoorW.PrintMore
attribute [local go_sem] max2_int min2_int max_two min_two max_three min_three max_four min_four
set_option linter.unusedVariables false
set_option linter.unusedSimpArgs false
mutual
def impl_tray_stuck.l0 : Nat → Int → List (List Int) → List Int → Int → Int → List Int → Option (Int × Int × List Int × List Int)
 | 0, _, _, _, _, _, _ => none
 | k + 1, x1, x6, x7, x102000, x102001, x102002 => (impl_tray_blocked.f x102000 x102001 x102002 x6 x1).bind fun t109 => ((impl_tray_stuckStep.f x102000 x102001 x102002 x6 x1).bind fun bt112 => (if bt112.2.2.2.2 = true then (impl_tray_stuck.l1 k x1 x7 t109 bt112.2.2.2.1 (x6.length : Int) 0 bt112.1 bt112.2.1 bt112.2.2.1) else (some (x102000, x102001, x102002, x7))))
def impl_tray_stuck.l1 : Nat → Int → List Int → List Bool → List (List Int) → Int → Int → Int → Int → List Int → Option (Int × Int × List Int × List Int)
 | 0, _, _, _, _, _, _, _, _, _ => none
 | k + 1, x1, x7, x8, x10, x35, x36, x122000, x122001, x122002 => if x36 < x35 then (if 0 ≤ x36 then (if x36 < (x7.length : Int) then (if x36 < (x8.length : Int) then ((impl_bit.f (!(rdOf false x8 x36))).bind fun t124 => (impl_tray_stuck.l1 k x1 (x7.set (x36 : Int).toNat (wrap64 ((rd x7 x36) + t124))) x8 x10 x35 (wrap64 (x36 + 1)) x122000 x122001 x122002)) else (none)) else (none)) else (none)) else (impl_tray_stuck.l0 k x1 x10 x7 x122000 x122001 x122002)
end
def impl_tray_stuck.f (k : Nat) (a0_0 : Int) (a0_1 : Int) (l0_2 : List Int) (a1 : Int) : Option (Int × Int × List Int × List Int) := (impl_tray_pieces.f k a0_0 a0_1 l0_2).bind fun t103 => (if 0 ≤ (t103.length : Int) then (if ((t103.length : Int) : Int).toNat ≤ 35184372088832 then (impl_tray_stuck.l0 k a1 t103 (List.replicate ((t103.length : Int) : Int).toNat 0) a0_0 a0_1 l0_2) else (none)) else (none))
def impl_tray_stuck.T10 : Bool × List (List Nat × List Nat) := (true, [([], []), ([], []), ([0, 1], [0, 1]), ([2], [2]), ([], []), ([], []), ([4, 5], [4, 5]), ([6], [6]), ([7], [7]), ([8], [8]), ([3, 9], [3, 9]), ([0, 1, 0, 1, 2, 3, 4, 5, 6, 7, 8, 9, 10], [0, 1]), ([11, 10, 9, 0, 1, 2, 3, 4, 5, 6, 7, 8, 9, 10], [10, 11])])
def impl_tray_stuck.B10 : List Nat := [0, 0, 3, 7, 0, 0, 48, 112, 240, 496, 1023, 2047, 4095]
theorem impl_tray_stuck.tab10 : rtab .any (opsOf Tryd.f33 10) = impl_tray_stuck.T10 := by kernel_rfl
theorem impl_tray_stuck.bits10 : waitsOk impl_tray_stuck.T10.2 impl_tray_stuck.B10 = true := by kernel_rfl
set_option maxHeartbeats 8000000 in
set_option maxRecDepth 100000 in
theorem impl_tray_stuck.calls (k : Nat) (a0_0 : Int) (a0_1 : Int) (P0_2_ : Nat → Prop) (A0_2 : Option Addr) (c0_2 : Nat) (l0_2 : List Int) (a1 : Int) (r1 : Int) (r2 : Int) (r3 : List Int) (r4 : List Int) (w : World) (hs0_2 : Kd.V (Kd.int .u8) 5 w w.heap.size (fun k_ => P0_2_ k_) (.slice A0_2 l0_2.length c0_2) l0_2) (h : impl_tray_stuck.f k a0_0 a0_1 l0_2 a1 = some (r1, r2, r3, r4)) :
  Calls Tryd.prog 33 #[.agg #[.int .i64 a0_0, .int .i64 a0_1, .slice A0_2 l0_2.length c0_2], .int .u8 a1] w fun e w' => ∃ v2_ v3_ : Value, e = .returned (.tuple #[.agg #[.int .i64 r1, .int .i64 r2, v2_], v3_]) ∧ Kd.V (Kd.int .u8) 5 w' w.heap.size (fun k_ => (P0_2_ k_ ∨ w.heap.size ≤ k_) ∧ some k_ ≠ (v3_ : Value).ownBlock) v2_ r3 ∧ Kd.R (Kd.int .i64) 3 w' w.heap.size (fun k_ => (w.heap.size ≤ k_)) v3_ r4 ∧ Below w.heap.size w w' := by
 have hu41 := Tryd.underlying41;have HO0_2 := Aside0.mk (show Kd.V (Kd.int .u8) 5 w w.heap.size (fun k_ => (P0_2_ k_ ∨ w.heap.size ≤ k_)) (.slice A0_2 l0_2.length c0_2) l0_2 from Kd.V_mono hs0_2 (fun k_ hk => .inl hk));have HB := Aside0.mk (Below.refl w.heap.size w);have H : ((impl_tray_pieces.f k a0_0 a0_1 l0_2).bind fun t103 => (if 0 ≤ (t103.length : Int) then (if ((t103.length : Int) : Int).toNat ≤ 35184372088832 then (impl_tray_stuck.l0 k a1 t103 (List.replicate ((t103.length : Int) : Int).toNat 0) a0_0 a0_1 l0_2) else (none)) else (none))) = some (r1, r2, r3, r4) := h;clear h;replace H := Option.bind_eq_some_iff.mp H;obtain ⟨t103, A30, H⟩ := H;replace H : (if 0 ≤ (t103.length : Int) then (if ((t103.length : Int) : Int).toNat ≤ 35184372088832 then (impl_tray_stuck.l0 k a1 t103 (List.replicate ((t103.length : Int) : Int).toNat 0) a0_0 a0_1 l0_2) else (none)) else (none)) = some (r1, r2, r3, r4) := H;have A3 := Aside0.mk A30;clear A30
 by_cases c4 : 0 ≤ (t103.length : Int)
 ·rw [if_pos c4] at H
  have c4b0 := eq_true c4;have c4b1 : decide (0 ≤ (t103.length : Int)) = true := decide_eq_true c4;clear c4
  by_cases c5 : ((t103.length : Int) : Int).toNat ≤ 35184372088832
  ·rw [if_pos c5] at H
   have c5b0 := eq_true c5;have c5b1 : decide (((t103.length : Int) : Int).toNat ≤ 35184372088832) = true := decide_eq_true c5;clear c5;obtain ⟨y106, hy106⟩ : ∃ y_ : List Int, y_ = (List.replicate ((t103.length : Int) : Int).toNat 0) := ⟨_, rfl⟩;replace H : (impl_tray_stuck.l0 k a1 t103 y106 a0_0 a0_1 l0_2) = some (r1, r2, r3, r4) := rH hy106 H;have Ny106 := Aside0.mk hy106;clear hy106;have H' := Aside0.mk H;clear H
   go_enter Tryd.func33, Tryd.ntmps33
   go_wp2_with (first | ((with_reducible refine gate_dst (N := 2) rfl ?_); refine boxE (N := 2) (cs := #[.int .i64 a0_0, .int .i64 a0_1, .slice A0_2 l0_2.length c0_2]) (t := 41) ?_; intro gb101 hg w6 hbox hb; have n0_ := Aside0.mk (Kd.V_below (Kd.V_elderB (by (with_reducible repeat (first | apply Kd.V_alloc | apply Kd.V_drewN | apply Kd.V_drew)); (first | exact HO0_2.out | exact R_any HO0_2.out)) gb101 (Nat.le_of_eq hg.symm)) hb); have n1_ := Aside0.mk (below_step (bel HB) hb); have n2_ := Aside0.mk (hbox); have n3_ := Aside0.mk (gsz hg (bel HB)); have n4_ := Aside0.mk (gsz hg (bel HB)); clear HO0_2; clear HB; have HO0_2 := n0_; have HB := n1_; have BK101 := n2_; have GW101 := n3_; have GE101 := n4_; clear n0_ n1_ n2_ n3_ n4_; clear hb hbox hg) | ((with_reducible refine gate_dst (N := 4) rfl ?_); refine boxE (N := 4) (cs := #[.int .i64 0, .int .i64 0, .slice none 0 0]) (t := 41) ?_; intro gb102 hg w7 hbox hb; have n0_ := Aside0.mk (Kd.V_below (Kd.V_elderB (by (with_reducible repeat (first | apply Kd.V_alloc | apply Kd.V_drewN | apply Kd.V_drew)); (first | exact HO0_2.out | exact R_any HO0_2.out)) gb102 (Nat.le_of_eq hg.symm)) hb); have n1_ := Aside0.mk (blk_below (g := gb101) (o := .cells #[.int .i64 a0_0, .int .i64 a0_1, .slice A0_2 l0_2.length c0_2] 41 (0, 0)) blc hb); have n2_ := Aside0.mk (below_step (bel HB) hb); have n3_ := Aside0.mk (hbox); have n4_ := Aside0.mk (gsz hg (bel HB)); have n5_ := Aside0.mk (gsz hg (bel HB)); have n6_ := Aside0.mk ((by rw [hg]; exact Nat.ne_of_lt (blk_lt (g := gb101) (o := .cells #[.int .i64 a0_0, .int .i64 a0_1, .slice A0_2 l0_2.length c0_2] 41 (0, 0)) blc) : gb101 ≠ gb102)); have n7_ := Aside0.mk ((by rw [hg]; exact Nat.ne_of_gt (blk_lt (g := gb101) (o := .cells #[.int .i64 a0_0, .int .i64 a0_1, .slice A0_2 l0_2.length c0_2] 41 (0, 0)) blc) : gb102 ≠ gb101)); clear HO0_2; clear BK101; clear HB; have HO0_2 := n0_; have BK101 := n1_; have HB := n2_; have BK102 := n3_; have GW102 := n4_; have GE102 := n5_; have NB101_102 := n6_; have NB102_101 := n7_; clear n0_ n1_ n2_ n3_ n4_ n5_ n6_ n7_; clear hb hbox hg; have hnb8 := NB101_102.out; have hnc8 := NB102_101.out; have hcz9_0 : w7.cell? ⟨gb101, 0, none⟩ = some (.int .i64 a0_0) := (blk_cell BK101.out 0).trans rfl; have hcz9_1 : w7.cell? ⟨gb101, 1, none⟩ = some (.int .i64 a0_1) := (blk_cell BK101.out 1).trans rfl; have hcz9_2 : w7.cell? ⟨gb101, 2, none⟩ = some (.slice A0_2 l0_2.length c0_2) := (blk_cell BK101.out 2).trans rfl; have hfz9_0 := blk_frozen BK101.out 0; have hfz9_1 := blk_frozen BK101.out 1; have hfz9_2 := blk_frozen BK101.out 2) | ((with_reducible refine gate_callee (f := 19) rfl ?_); refine gcall (some 14) Tryd.func19 #[.agg #[.int .i64 a0_0, .int .i64 a0_1, .slice A0_2 l0_2.length c0_2]] rfl ?_; (with_reducible refine (impl_tray_pieces.calls k a0_0 a0_1 _ _ l0_2 t103 _ ?side1 ?side2 A3.out).mono ?_); (case side1 => repeat (first | exact (Kd.V_reads' HO0_2.out).2.2 | (with_reducible refine Kd.C_alloc ?_ _) | (with_reducible refine Kd.C_drewN ?_ _) | (with_reducible refine Kd.C_drew ?_))); (case side2 => exact (Kd.V_reads' HO0_2.out).2.1); rintro e w10 ⟨v104, rfl, ho0, hb⟩; refine ⟨_, rfl, ?_⟩; have n0_ := Aside0.mk (Kd.V_elder' (by (with_reducible repeat (first | apply Kd.V_alloc | apply Kd.V_drewN | apply Kd.V_drew)); (first | exact HO0_2.out | exact R_any HO0_2.out)) (Kd.S_base ho0) hb); have n1_ := Aside0.mk (Kd.S_lower (Kd.S_newM (M := fun k_ => (w.heap.size ≤ k_)) ho0 (below_size (bel HB)) (fun k_ h_ => h_)) (below_size (bel HB))); have n2_ := Aside0.mk (blk_below (g := gb101) (o := .cells #[.int .i64 a0_0, .int .i64 a0_1, .slice A0_2 l0_2.length c0_2] 41 (0, 0)) blc hb); have n3_ := Aside0.mk (blk_below (g := gb102) (o := .cells #[.int .i64 0, .int .i64 0, .slice none 0 0] 41 (0, 0)) blc hb); have n4_ := Aside0.mk (below_step (bel HB) hb); clear HO0_2; clear BK101; clear BK102; clear HB; have HO0_2 := n0_; have HO105 := n1_; have BK101 := n2_; have BK102 := n3_; have HB := n4_; clear n0_ n1_ n2_ n3_ n4_; (try clear hb); (try clear hb2); (try clear hk); (try clear hi); (try clear ho0); obtain ⟨Ao11, co11, eo11⟩ := Kd.S_slice HO105.out; subst eo11) | ((with_reducible refine gate_dst (N := 17) rfl ?_); refine Kd.R_make (Kd.int .i64) _ 3 rfl (N := 17) rfl 33 _ _ rfl (t103.length : Int) rfl rfl Tryd.underlying33 (.int .i64 0) 8 info3 rfl (by decide) (by omega) 0 (ok := fun _ => True) (okp := fun _ => True) rfl (fun _ hk => hk) trivial (of_decide_eq_true (by first | (with_reducible assumption) | assumption)) (Nat.le_trans (Nat.mul_le_mul_right _ (of_decide_eq_true (by first | (with_reducible assumption) | assumption) : (t103.length : Int).toNat ≤ 35184372088832)) (by omega)) (Below.refl _ _) (Nat.le_refl _) ?_; intro v107 w12 ho13 hb hg_ hnew_; clear hg_ hnew_; (first | rw [← Ny106.out] at ho13 | (simp only [Int.reduceToNat] at ho13; rw [← Ny106.out] at ho13)); have n0_ := Aside0.mk (Kd.V_elder' (by (with_reducible repeat (first | apply Kd.V_alloc | apply Kd.V_drewN | apply Kd.V_drew)); (first | exact HO0_2.out | exact R_any HO0_2.out)) (Kd.R_base ho13) hb); have n1_ := Aside0.mk (Kd.S_elder' (by (with_reducible repeat (first | apply Kd.S_alloc | apply Kd.S_drewN | apply Kd.S_drew)); (first | exact HO105.out | exact R_any HO105.out)) (Kd.R_base ho13) hb); have n2_ := Aside0.mk (Kd.R_lower (Kd.R_newM (M := fun k_ => (w.heap.size ≤ k_)) ho13 (below_size (bel HB)) (fun k_ h_ => h_)) (below_size (bel HB))); have n3_ := Aside0.mk (blk_below (g := gb101) (o := .cells #[.int .i64 a0_0, .int .i64 a0_1, .slice A0_2 l0_2.length c0_2] 41 (0, 0)) blc hb); have n4_ := Aside0.mk (blk_below (g := gb102) (o := .cells #[.int .i64 0, .int .i64 0, .slice none 0 0] 41 (0, 0)) blc hb); have n5_ := Aside0.mk (below_step (bel HB) hb); clear HO0_2; clear HO105; clear BK101; clear BK102; clear HB; have HO0_2 := n0_; have HO105 := n1_; have HO108 := n2_; have BK101 := n3_; have BK102 := n4_; have HB := n5_; clear n0_ n1_ n2_ n3_ n4_ n5_; clear hb ho13))
   go_loopg [6] k (fun kq v6 w' => ∃ (x6_1 : List (List Int)) (x7_1 : List Int) (x102000_1 : Int) (x102001_1 : Int) (x102002_1 : List Int) (x103000_1 : Int) (x103001_1 : Int) (u102002 : Value), Aside0 (impl_tray_stuck.l0 kq a1 x6_1 x7_1 x102000_1 x102001_1 x102002_1 = some (r1, r2, r3, r4)) ∧ Aside0 (kq ≤ k) ∧ Aside0 (Kd.S (Kd.slice 3 (Kd.int .i64)) 33 w' w.heap.size (fun k_ => (w.heap.size ≤ k_) ∧ some k_ ≠ (v107 : Value).ownBlock) v6 x6_1) ∧ Aside0 (Kd.R (Kd.int .i64) 3 w' w.heap.size (fun k_ => (w.heap.size ≤ k_)) v107 x7_1) ∧ Aside0 (Kd.V (Kd.int .u8) 5 w' w.heap.size (fun k_ => (P0_2_ k_ ∨ w.heap.size ≤ k_) ∧ some k_ ≠ (v6 : Value).ownBlock ∧ some k_ ≠ (v107 : Value).ownBlock ∧ k_ ≠ gb101 ∧ k_ ≠ gb102) u102002 x102002_1) ∧ Aside0 (w'.heap[gb101]? = some (.cells #[.int .i64 x102000_1, .int .i64 x102001_1, u102002] 41 (0, 0))) ∧ Aside0 (w'.heap[gb102]? = some (.cells #[.int .i64 x103000_1, .int .i64 x103001_1, (.slice none 0 0)] 41 (0, 0))) ∧ Aside0 (Below w.heap.size w w'))
   case atStart => exact ⟨(t103), (y106), (a0_0), (a0_1), (l0_2), (0), (0), (.slice A0_2 l0_2.length c0_2), H', ⟨Nat.le_refl _⟩, ⟨by (with_reducible repeat (first | apply Kd.S_alloc | apply Kd.S_drewN | apply Kd.S_drew)); exact Kd.S_mono HO105.out (fun _ hk => ⟨hk.1.1, hk.2⟩)⟩, ⟨by (with_reducible repeat (first | apply Kd.R_alloc | apply Kd.R_drewN | apply Kd.R_drew)); exact Kd.R_mono HO108.out (fun _ hk => hk.1)⟩, ⟨by (with_reducible repeat (first | apply Kd.V_alloc | apply Kd.V_drewN | apply Kd.V_drew)); exact Kd.V_mono HO0_2.out (fun _ hk => ⟨hk.1.1.1.1, ⟨hk.1.2, ⟨hk.2, ⟨hk.1.1.1.2, hk.1.1.2⟩⟩⟩⟩)⟩, ⟨blc⟩, ⟨blc⟩, ⟨bel HB⟩⟩
   case round =>
    clear H'
    try clear c1
    try clear p2
    try clear c3
    try clear c4
    try clear c4b0
    try clear c4b0y
    try clear c4b1
    try clear c5
    try clear c5b0
    try clear c5b0y
    try clear c5b1
    try clear c8
    try clear hcz9_0
    try clear hcz9_1
    try clear hcz9_2
    try clear hfz9_0
    try clear hfz9_1
    try clear hfz9_2
    obtain ⟨x6_1, x7_1, x102000_1, x102001_1, x102002_1, x103000_1, x103001_1, u102002, HA, HK1, HO_6, HO_7, HO_102002, BK101, BK102, HB⟩ := hrel
    cases gk with
    | zero => exact absurd HA.out (by simp [impl_tray_stuck.l0])
    | succ k1 =>
     have H := HA.out;clear HA
     simp only [impl_tray_stuck.l0] at H
     replace H := Option.bind_eq_some_iff.mp H;obtain ⟨t109, A140, H⟩ := H;replace H : ((impl_tray_stuckStep.f x102000_1 x102001_1 x102002_1 x6_1 a1).bind fun bt112 => (if bt112.2.2.2.2 = true then (impl_tray_stuck.l1 k1 a1 x7_1 t109 bt112.2.2.2.1 (x6_1.length : Int) 0 bt112.1 bt112.2.1 bt112.2.2.1) else (some (x102000_1, x102001_1, x102002_1, x7_1)))) = some (r1, r2, r3, r4) := H;have A14 := Aside0.mk A140;clear A140;replace H := Option.bind_eq_some_iff.mp H;obtain ⟨⟨t112, t113, t114, t117, t120⟩, A150, H⟩ := H;replace H : (if t120 = true then (impl_tray_stuck.l1 k1 a1 x7_1 t109 t117 (x6_1.length : Int) 0 t112 t113 t114) else (some (x102000_1, x102001_1, x102002_1, x7_1))) = some (r1, r2, r3, r4) := H;have A15 := Aside0.mk A150;clear A150
     by_cases c16 : t120 = true
     ·subst c16
      have H1 : (impl_tray_stuck.l1 k1 a1 x7_1 t109 t117 (x6_1.length : Int) 0 t112 t113 t114) = some (r1, r2, r3, r4) := by rw [if_pos rfl] at H; exact H
      clear H;have H := H1;clear H1;have H' := Aside0.mk H;clear H;have hnb17 := NB101_102.out;have hnc17 := NB102_101.out;have hcz18_0 : wr.cell? ⟨gb101, 0, none⟩ = some (.int .i64 x102000_1) := (blk_cell BK101.out 0).trans rfl;have hcz18_1 : wr.cell? ⟨gb101, 1, none⟩ = some (.int .i64 x102001_1) := (blk_cell BK101.out 1).trans rfl;have hcz18_2 : wr.cell? ⟨gb101, 2, none⟩ = some (u102002) := (blk_cell BK101.out 2).trans rfl;have hfz18_0 := blk_frozen BK101.out 0;have hfz18_1 := blk_frozen BK101.out 1;have hfz18_2 := blk_frozen BK101.out 2;obtain ⟨Ao19, co19, eo19⟩ := Kd.V_slice HO_102002.out;subst eo19;obtain ⟨Ao20, co20, eo20⟩ := Kd.S_slice HO_6.out;subst eo20
      go_wp2_with (first | ((with_reducible refine gate_callee (f := 54) rfl ?_); refine gcall (some 21) Tryd.func54 #[.agg #[.int .i64 x102000_1, .int .i64 x102001_1, .slice Ao19 x102002_1.length co19], .slice Ao20 x6_1.length co20, .int .u8 a1] rfl ?_; (with_reducible refine (impl_tray_blocked.calls x102000_1 x102001_1 _ _ x102002_1 _ _ x6_1 a1 t109 _ ?side1 ?side2 ?side3 ?side4 A14.out).mono ?_); (case side1 => repeat (first | exact (Kd.V_reads' HO_102002.out).2.2 | (with_reducible refine Kd.C_alloc ?_ _) | (with_reducible refine Kd.C_drewN ?_ _) | (with_reducible refine Kd.C_drew ?_))); (case side2 => exact (Kd.V_reads' HO_102002.out).2.1); (case side3 => repeat (first | exact (Kd.S_reads' HO_6.out).2.2 | (with_reducible refine Kd.C_alloc ?_ _) | (with_reducible refine Kd.C_drewN ?_ _) | (with_reducible refine Kd.C_drew ?_))); (case side4 => exact (Kd.S_reads' HO_6.out).2.1); rintro e w21 ⟨v110, rfl, ho0, hb⟩; refine ⟨_, rfl, ?_⟩; have n0_ := Aside0.mk (Kd.S_below (by (with_reducible repeat (first | apply Kd.S_alloc | apply Kd.S_drewN | apply Kd.S_drew)); (first | exact HO_6.out | exact R_any HO_6.out)) hb); have n1_ := Aside0.mk (Kd.R_below (rch HO_7) hb); have n2_ := Aside0.mk (Kd.V_elder' (by (with_reducible repeat (first | apply Kd.V_alloc | apply Kd.V_drewN | apply Kd.V_drew)); (first | exact HO_102002.out | exact R_any HO_102002.out)) (Kd.R_base ho0) hb); have n3_ := Aside0.mk (Kd.R_lower (Kd.R_newM (M := fun k_ => (w.heap.size ≤ k_)) ho0 (below_size (bel HB)) (fun k_ h_ => h_)) (below_size (bel HB))); have n4_ := Aside0.mk (blk_below (g := gb101) (o := .cells #[.int .i64 x102000_1, .int .i64 x102001_1, .slice Ao19 x102002_1.length co19] 41 (0, 0)) blc hb); have n5_ := Aside0.mk (blk_below (g := gb102) (o := .cells #[.int .i64 x103000_1, .int .i64 x103001_1, .slice none 0 0] 41 (0, 0)) blc hb); have n6_ := Aside0.mk (below_step (bel HB) hb); clear HO_6; clear HO_7; clear HO_102002; clear BK101; clear BK102; clear HB; have HO_6 := n0_; have HO_7 := n1_; have HO_102002 := n2_; have HO111 := n3_; have BK101 := n4_; have BK102 := n5_; have HB := n6_; clear n0_ n1_ n2_ n3_ n4_ n5_ n6_; (try clear hb); (try clear hb2); (try clear hk); (try clear hi); (try clear ho0); have hcz22_0 : w21.cell? ⟨gb101, 0, none⟩ = some (.int .i64 x102000_1) := (blk_cell BK101.out 0).trans rfl; have hcz22_1 : w21.cell? ⟨gb101, 1, none⟩ = some (.int .i64 x102001_1) := (blk_cell BK101.out 1).trans rfl; have hcz22_2 : w21.cell? ⟨gb101, 2, none⟩ = some (.slice Ao19 x102002_1.length co19) := (blk_cell BK101.out 2).trans rfl; have hfz22_0 := blk_frozen BK101.out 0; have hfz22_1 := blk_frozen BK101.out 1; have hfz22_2 := blk_frozen BK101.out 2) | ((with_reducible refine gate_callee (f := 55) rfl ?_); refine gcall (some 26) Tryd.func55 #[.agg #[.int .i64 x102000_1, .int .i64 x102001_1, .slice Ao19 x102002_1.length co19], .slice Ao20 x6_1.length co20, .int .u8 a1] rfl ?_; (with_reducible refine (impl_tray_stuckStep.calls x102000_1 x102001_1 _ _ x102002_1 _ _ x6_1 a1 t112 t113 t114 t117 true _ ?side1 ?side2 ?side3 ?side4 A15.out).mono ?_); (case side1 => repeat (first | exact (Kd.V_reads' HO_102002.out).2.2 | (with_reducible refine Kd.C_alloc ?_ _) | (with_reducible refine Kd.C_drewN ?_ _) | (with_reducible refine Kd.C_drew ?_))); (case side2 => exact (Kd.V_reads' HO_102002.out).2.1); (case side3 => repeat (first | exact (Kd.S_reads' HO_6.out).2.2 | (with_reducible refine Kd.C_alloc ?_ _) | (with_reducible refine Kd.C_drewN ?_ _) | (with_reducible refine Kd.C_drew ?_))); (case side4 => exact (Kd.S_reads' HO_6.out).2.1); rintro e w23 ⟨v115, v118, rfl, ho0, ho1, hb⟩; refine ⟨_, rfl, ?_⟩; have n0_ := Aside0.mk (Kd.S_elder' (by (with_reducible repeat (first | apply Kd.S_alloc | apply Kd.S_drewN | apply Kd.S_drew)); (first | exact HO_6.out | exact R_any HO_6.out)) (Kd.S_base ho1) hb); have n1_ := Aside0.mk (Kd.R_below (rch HO_7) hb); have n2_ := Aside0.mk (Kd.V_mono (Kd.V_told (Kd.V_told (Kd.V_old (by (with_reducible repeat (first | apply Kd.V_alloc | apply Kd.V_drewN | apply Kd.V_drew)); (first | exact HO_102002.out | exact R_any HO_102002.out)) hb) (Kd.R_base ho0)) (Kd.S_base ho1)) (fun _ h_ => h_.1)); have n3_ := Aside0.mk (Kd.R_below (rch HO111) hb); have n4_ := Aside0.mk (Kd.R_lower (Kd.R_newM (M := fun k_ => (w.heap.size ≤ k_)) ho0 (below_size (bel HB)) (fun k_ h_ => h_)) (below_size (bel HB))); have n5_ := Aside0.mk (Kd.S_lower (Kd.S_new' (Kd.S_new' (Kd.S_newM (M := fun k_ => (w.heap.size ≤ k_)) ho1 (below_size (bel HB)) (fun k_ h_ => h_)) (Kd.S_lt (by (with_reducible repeat (first | apply Kd.S_alloc | apply Kd.S_drewN | apply Kd.S_drew)); (first | exact HO_6.out | exact R_any HO_6.out)))) (Kd.R_lt (rch HO_7))) (below_size (bel HB))); have n6_ := Aside0.mk (blk_below (g := gb101) (o := .cells #[.int .i64 x102000_1, .int .i64 x102001_1, .slice Ao19 x102002_1.length co19] 41 (0, 0)) blc hb); have n7_ := Aside0.mk (blk_below (g := gb102) (o := .cells #[.int .i64 x103000_1, .int .i64 x103001_1, .slice none 0 0] 41 (0, 0)) blc hb); have n8_ := Aside0.mk (below_step (bel HB) hb); clear HO_6; clear HO_7; clear HO_102002; clear HO111; clear BK101; clear BK102; clear HB; have HO_6 := n0_; have HO_7 := n1_; have HO_102002 := n2_; have HO111 := n3_; have HO116 := n4_; have HO119 := n5_; have BK101 := n6_; have BK102 := n7_; have HB := n8_; clear n0_ n1_ n2_ n3_ n4_ n5_ n6_ n7_ n8_; (try clear hb); (try clear hb2); (try clear hk); (try clear hi); (try clear ho0); (try clear ho1)) | ((with_reducible refine gate_dst (N := 9) rfl ?_); refine boxE (N := 9) (cs := #[.int .i64 0, .int .i64 0, .slice none 0 0]) (t := 41) ?_; intro gb121 hg w24 hbox hb; have n0_ := Aside0.mk (Kd.S_below (by (with_reducible repeat (first | apply Kd.S_alloc | apply Kd.S_drewN | apply Kd.S_drew)); (first | exact HO_6.out | exact R_any HO_6.out)) hb); have n1_ := Aside0.mk (Kd.R_below (rch HO_7) hb); have n2_ := Aside0.mk (Kd.V_below (Kd.V_elderB (by (with_reducible repeat (first | apply Kd.V_alloc | apply Kd.V_drewN | apply Kd.V_drew)); (first | exact HO_102002.out | exact R_any HO_102002.out)) gb121 (Nat.le_of_eq hg.symm)) hb); have n3_ := Aside0.mk (Kd.R_below (rch HO111) hb); have n4_ := Aside0.mk (Kd.R_below (rch HO116) hb); have n5_ := Aside0.mk (Kd.S_below (by (with_reducible repeat (first | apply Kd.S_alloc | apply Kd.S_drewN | apply Kd.S_drew)); (first | exact HO119.out | exact R_any HO119.out)) hb); have n6_ := Aside0.mk (blk_below (g := gb101) (o := .cells #[.int .i64 x102000_1, .int .i64 x102001_1, .slice Ao19 x102002_1.length co19] 41 (0, 0)) blc hb); have n7_ := Aside0.mk (blk_below (g := gb102) (o := .cells #[.int .i64 x103000_1, .int .i64 x103001_1, .slice none 0 0] 41 (0, 0)) blc hb); have n8_ := Aside0.mk (below_step (bel HB) hb); have n9_ := Aside0.mk (hbox); have n10_ := Aside0.mk (gsz hg (bel HB)); have n11_ := Aside0.mk (gsz hg (bel HB)); have n12_ := Aside0.mk ((by rw [hg]; exact Nat.ne_of_lt (blk_lt (g := gb101) (o := .cells #[.int .i64 x102000_1, .int .i64 x102001_1, .slice Ao19 x102002_1.length co19] 41 (0, 0)) blc) : gb101 ≠ gb121)); have n13_ := Aside0.mk ((by rw [hg]; exact Nat.ne_of_gt (blk_lt (g := gb101) (o := .cells #[.int .i64 x102000_1, .int .i64 x102001_1, .slice Ao19 x102002_1.length co19] 41 (0, 0)) blc) : gb121 ≠ gb101)); have n14_ := Aside0.mk ((by rw [hg]; exact Nat.ne_of_lt (blk_lt (g := gb102) (o := .cells #[.int .i64 x103000_1, .int .i64 x103001_1, .slice none 0 0] 41 (0, 0)) blc) : gb102 ≠ gb121)); have n15_ := Aside0.mk ((by rw [hg]; exact Nat.ne_of_gt (blk_lt (g := gb102) (o := .cells #[.int .i64 x103000_1, .int .i64 x103001_1, .slice none 0 0] 41 (0, 0)) blc) : gb121 ≠ gb102)); clear HO_6; clear HO_7; clear HO_102002; clear HO111; clear HO116; clear HO119; clear BK101; clear BK102; clear HB; have HO_6 := n0_; have HO_7 := n1_; have HO_102002 := n2_; have HO111 := n3_; have HO116 := n4_; have HO119 := n5_; have BK101 := n6_; have BK102 := n7_; have HB := n8_; have BK121 := n9_; have GW121 := n10_; have GE121 := n11_; have NB101_121 := n12_; have NB121_101 := n13_; have NB102_121 := n14_; have NB121_102 := n15_; clear n0_ n1_ n2_ n3_ n4_ n5_ n6_ n7_ n8_ n9_ n10_ n11_ n12_ n13_ n14_ n15_; clear hb hbox hg; have hnb25 := NB121_101.out; have hnc25 := NB101_121.out; have hnb26 := NB121_102.out; have hnc26 := NB102_121.out; have hcz27_0 : w24.cell? ⟨gb121, 0, none⟩ = some (.int .i64 0) := (blk_cell BK121.out 0).trans rfl; have hcz27_1 : w24.cell? ⟨gb121, 1, none⟩ = some (.int .i64 0) := (blk_cell BK121.out 1).trans rfl; have hcz27_2 : w24.cell? ⟨gb121, 2, none⟩ = some (.slice none 0 0) := (blk_cell BK121.out 2).trans rfl; have hfz27_0 := blk_frozen BK121.out 0; have hfz27_1 := blk_frozen BK121.out 1; have hfz27_2 := blk_frozen BK121.out 2; obtain ⟨Ao28, co28, eo28⟩ := Kd.R_slice HO116.out; subst eo28))
      go_loopg [36] k1 (fun kq v36 w' => ∃ (x7_2 : List Int) (x36_2 : Int), v36 = .int .i64 x36_2 ∧ Aside0 (impl_tray_stuck.l1 kq a1 x7_2 t109 t117 (x6_1.length : Int) x36_2 t112 t113 t114 = some (r1, r2, r3, r4)) ∧ Aside0 (kq ≤ k1) ∧ Aside0 (Kd.R (Kd.int .i64) 3 w' w.heap.size (fun k_ => (w.heap.size ≤ k_)) v107 x7_2) ∧ Aside0 (Kd.R Kd.bool 4 w' w.heap.size (fun k_ => (w.heap.size ≤ k_)) v110 t109) ∧ Aside0 (Kd.S (Kd.slice 3 (Kd.int .i64)) 33 w' w.heap.size (fun k_ => (w.heap.size ≤ k_) ∧ some k_ ≠ (v107 : Value).ownBlock) v118 t117) ∧ Aside0 (Kd.V (Kd.int .u8) 5 w' w.heap.size (fun k_ => (P0_2_ k_ ∨ w.heap.size ≤ k_) ∧ some k_ ≠ (v107 : Value).ownBlock ∧ some k_ ≠ (v110 : Value).ownBlock ∧ some k_ ≠ (v118 : Value).ownBlock ∧ some k_ ≠ ((.slice Ao28 t114.length co28) : Value).ownBlock ∧ k_ ≠ gb101 ∧ k_ ≠ gb102 ∧ k_ ≠ gb121) (.slice Ao19 x102002_1.length co19) x102002_1) ∧ Aside0 (Kd.R (Kd.int .u8) 5 w' w.heap.size (fun k_ => (w.heap.size ≤ k_)) (.slice Ao28 t114.length co28) t114) ∧ Aside0 (w'.heap[gb101]? = some (.cells #[.int .i64 x102000_1, .int .i64 x102001_1, (.slice Ao19 x102002_1.length co19)] 41 (0, 0))) ∧ Aside0 (w'.heap[gb102]? = some (.cells #[.int .i64 x103000_1, .int .i64 x103001_1, (.slice none 0 0)] 41 (0, 0))) ∧ Aside0 (w'.heap[gb121]? = some (.cells #[.int .i64 t112, .int .i64 t113, (.slice Ao28 t114.length co28)] 41 (0, 0))) ∧ Aside0 (Below w.heap.size w w'))
      case atStart => exact ⟨(x7_1), (0), (by first | rfl | (simp; done) | (simp [*]; done)), H', ⟨Nat.le_refl _⟩, ⟨by (with_reducible repeat (first | apply Kd.R_alloc | apply Kd.R_drewN | apply Kd.R_drew)); exact Kd.R_mono (Kd.R_far (p := ⟨gb121, 2, none⟩) (Kd.R_far (p := ⟨gb121, 1, none⟩) (Kd.R_far (p := ⟨gb121, 0, none⟩) (Kd.R_types HO_7.out BK121.out (by decide)) (fun _ hk => hk.2) (.int .i64 t112)) (fun _ hk => hk.2) (.int .i64 t113)) (fun _ hk => hk.2) (.slice Ao28 t114.length co28)) (fun _ hk => hk.1)⟩, ⟨by (with_reducible repeat (first | apply Kd.R_alloc | apply Kd.R_drewN | apply Kd.R_drew)); exact Kd.R_mono (Kd.R_far (p := ⟨gb121, 2, none⟩) (Kd.R_far (p := ⟨gb121, 1, none⟩) (Kd.R_far (p := ⟨gb121, 0, none⟩) (Kd.R_types HO111.out BK121.out (by decide)) (fun _ hk => hk.2) (.int .i64 t112)) (fun _ hk => hk.2) (.int .i64 t113)) (fun _ hk => hk.2) (.slice Ao28 t114.length co28)) (fun _ hk => hk.1.1)⟩, ⟨by (with_reducible repeat (first | apply Kd.S_alloc | apply Kd.S_drewN | apply Kd.S_drew)); exact Kd.S_mono (Kd.S_far (p := ⟨gb121, 2, none⟩) (Kd.S_far (p := ⟨gb121, 1, none⟩) (Kd.S_far (p := ⟨gb121, 0, none⟩) (Kd.S_types HO119.out BK121.out (by decide)) (fun _ hk => hk.2) (.int .i64 t112)) (fun _ hk => hk.2) (.int .i64 t113)) (fun _ hk => hk.2) (.slice Ao28 t114.length co28)) (fun _ hk => ⟨hk.1.1.1.1, hk.1.2⟩)⟩, ⟨by (with_reducible repeat (first | apply Kd.V_alloc | apply Kd.V_drewN | apply Kd.V_drew)); exact Kd.V_mono (Kd.V_far (p := ⟨gb121, 2, none⟩) (Kd.V_far (p := ⟨gb121, 1, none⟩) (Kd.V_far (p := ⟨gb121, 0, none⟩) (Kd.V_mono HO_102002.out (fun k_ hk => (⟨hk, hk.2⟩ : _ ∧ k_ ≠ gb121))) (fun _ hk => hk.2) (.int .i64 t112)) (fun _ hk => hk.2) (.int .i64 t113)) (fun _ hk => hk.2) (.slice Ao28 t114.length co28)) (fun _ hk => ⟨hk.1.1.1.1.1.1, ⟨hk.1.1.1.1.1.2.2.1, ⟨hk.1.1.1.1.2, ⟨hk.1.1.2, ⟨hk.1.1.1.2, ⟨hk.1.1.1.1.1.2.2.2.1, ⟨hk.1.1.1.1.1.2.2.2.2, hk.1.2⟩⟩⟩⟩⟩⟩⟩)⟩, ⟨by (with_reducible repeat (first | apply Kd.R_alloc | apply Kd.R_drewN | apply Kd.R_drew)); exact Kd.R_mono (Kd.R_far (p := ⟨gb121, 2, none⟩) (Kd.R_far (p := ⟨gb121, 1, none⟩) (Kd.R_far (p := ⟨gb121, 0, none⟩) (Kd.R_types HO116.out BK121.out (by decide)) (fun _ hk => hk.2) (.int .i64 t112)) (fun _ hk => hk.2) (.int .i64 t113)) (fun _ hk => hk.2) (.slice Ao28 t114.length co28)) (fun _ hk => hk.1.1)⟩, ⟨by (with_reducible repeat (first | refine blk_drewN ?_ _ | refine blk_drew ?_ | refine blk_alloc ?_ _)); refine blk_far ?_ NB101_121.out _; (with_reducible repeat (first | refine blk_drewN ?_ _ | refine blk_drew ?_ | refine blk_alloc ?_ _)); refine blk_far ?_ NB101_121.out _; (with_reducible repeat (first | refine blk_drewN ?_ _ | refine blk_drew ?_ | refine blk_alloc ?_ _)); refine blk_far ?_ NB101_121.out _; exact blc⟩, ⟨by (with_reducible repeat (first | refine blk_drewN ?_ _ | refine blk_drew ?_ | refine blk_alloc ?_ _)); refine blk_far ?_ NB102_121.out _; (with_reducible repeat (first | refine blk_drewN ?_ _ | refine blk_drew ?_ | refine blk_alloc ?_ _)); refine blk_far ?_ NB102_121.out _; (with_reducible repeat (first | refine blk_drewN ?_ _ | refine blk_drew ?_ | refine blk_alloc ?_ _)); refine blk_far ?_ NB102_121.out _; exact blc⟩, ⟨by (with_reducible repeat (first | refine blk_drewN ?_ _ | refine blk_drew ?_ | refine blk_alloc ?_ _)); refine blk_put (cs := #[.int .i64 t112, .int .i64 t113, .slice none 0 0]) ?_ 2 _ rfl; (with_reducible repeat (first | refine blk_drewN ?_ _ | refine blk_drew ?_ | refine blk_alloc ?_ _)); refine blk_put (cs := #[.int .i64 t112, .int .i64 0, .slice none 0 0]) ?_ 1 _ rfl; (with_reducible repeat (first | refine blk_drewN ?_ _ | refine blk_drew ?_ | refine blk_alloc ?_ _)); refine blk_put (cs := #[.int .i64 0, .int .i64 0, .slice none 0 0]) ?_ 0 _ rfl; exact blc⟩, ⟨bel HB⟩⟩
      case round =>
       clear H'
       try clear c1
       try clear c2
       try clear p2
       try clear c3
       try clear c4
       try clear c4b0
       try clear c4b0y
       try clear c4b1
       try clear c5
       try clear c5b0
       try clear c5b0y
       try clear c5b1
       try clear c8
       try clear c16
       try clear c17
       try clear c19
       try clear c25
       try clear c26
       try clear hcz18_0
       try clear hcz18_1
       try clear hcz18_2
       try clear hcz22_0
       try clear hcz22_1
       try clear hcz22_2
       try clear hcz27_0
       try clear hcz27_1
       try clear hcz27_2
       try clear hcz9_0
       try clear hcz9_1
       try clear hcz9_2
       try clear hfz18_0
       try clear hfz18_1
       try clear hfz18_2
       try clear hfz22_0
       try clear hfz22_1
       try clear hfz22_2
       try clear hfz27_0
       try clear hfz27_1
       try clear hfz27_2
       try clear hfz9_0
       try clear hfz9_1
       try clear hfz9_2
       try clear p2
       obtain ⟨x7_2, x36_2, rfl, HA, HK2, HO_7, HO_8, HO_10, HO_102002, HO_122002, BK101, BK102, BK121, HB⟩ := hrel
       cases gk with
       | zero => exact absurd HA.out (by simp [impl_tray_stuck.l1])
       | succ k2 =>
        have H := HA.out;clear HA
        simp only [impl_tray_stuck.l1] at H
        by_cases c29 : x36_2 < (x6_1.length : Int)
        ·rw [if_pos c29] at H
         have c29b0 : decide (x36_2 < (x6_1.length : Int)) = true := decide_eq_true c29;clear c29
         by_cases c30 : 0 ≤ x36_2
         ·rw [if_pos c30] at H
          have c30b0 : decide (0 ≤ x36_2) = true := decide_eq_true c30;clear c30
          by_cases c31 : x36_2 < (x7_2.length : Int)
          ·rw [if_pos c31] at H
           have c31b0 : decide (x36_2 < (x7_2.length : Int)) = true := decide_eq_true c31;clear c31
           by_cases c32 : x36_2 < (t109.length : Int)
           ·rw [if_pos c32] at H
            have c32b0 : decide (x36_2 < (t109.length : Int)) = true := decide_eq_true c32;clear c32;replace H := Option.bind_eq_some_iff.mp H;obtain ⟨t124, A330, H⟩ := H;replace H : (impl_tray_stuck.l1 k2 a1 (x7_2.set (x36_2 : Int).toNat (wrap64 ((rd x7_2 x36_2) + t124))) t109 t117 (x6_1.length : Int) (wrap64 (x36_2 + 1)) t112 t113 t114) = some (r1, r2, r3, r4) := H;have A33 := Aside0.mk A330;clear A330;obtain ⟨y125, hy125⟩ : ∃ y_ : List Int, y_ = (x7_2.set (x36_2 : Int).toNat (wrap64 ((rd x7_2 x36_2) + t124))) := ⟨_, rfl⟩;replace H : (impl_tray_stuck.l1 k2 a1 y125 t109 t117 (x6_1.length : Int) (wrap64 (x36_2 + 1)) t112 t113 t114) = some (r1, r2, r3, r4) := rH hy125 H;have Ny125 := Aside0.mk hy125;clear hy125;have H' := Aside0.mk H;clear H
            try go_wp2
            have n0_ := Aside0.mk (Kd.R_drew HO_7.out);have n1_ := Aside0.mk (Kd.R_drew HO_8.out);have n2_ := Aside0.mk (Kd.S_drew HO_10.out);have n3_ := Aside0.mk (Kd.V_drew HO_102002.out);have n4_ := Aside0.mk (Kd.R_drew HO_122002.out);have n5_ := Aside0.mk (blk_drew BK101.out);have n6_ := Aside0.mk (blk_drew BK102.out);have n7_ := Aside0.mk (blk_drew BK121.out);have n8_ := Aside0.mk (below_drew1 HB.out);clear HO_7;clear HO_8;clear HO_10;clear HO_102002;clear HO_122002;clear BK101;clear BK102;clear BK121;clear HB;have HO_7 := n0_;have HO_8 := n1_;have HO_10 := n2_;have HO_102002 := n3_;have HO_122002 := n4_;have BK101 := n5_;have BK102 := n6_;have BK121 := n7_;have HB := n8_;clear n0_ n1_ n2_ n3_ n4_ n5_ n6_ n7_ n8_;obtain ⟨Ao36, co36, eo36⟩ := Kd.R_slice HO_7.out
            (first | subst eo36 | (injection eo36 with f1_ f2_ f3_; have f4_ := f1_.symm; have f5_ := f3_.symm; clear f1_ f2_ f3_; subst f4_; subst f5_))
            have p122 : 0 ≤ (x36_2 : Int) := of_decide_eq_true (by first | (with_reducible assumption) | assumption);have q122 : x36_2 < (x7_2.length : Int) := of_decide_eq_true (by first | (with_reducible assumption) | assumption);obtain ⟨ad122, e122, hx122_0⟩ := Kd.at_int (Kd.R_reads' HO_7.out).2.2 x36_2 p122 q122
            cases e122
            replace p122 := eq_true p122;replace q122 := eq_true q122;obtain ⟨Ao37, co37, eo37⟩ := Kd.R_slice HO_8.out
            (first | subst eo37 | (injection eo37 with f1_ f2_ f3_; have f4_ := f1_.symm; have f5_ := f3_.symm; clear f1_ f2_ f3_; subst f4_; subst f5_))
            have p123 : 0 ≤ (x36_2 : Int) := of_decide_eq_true (by first | (with_reducible assumption) | assumption);have q123 : x36_2 < (t109.length : Int) := of_decide_eq_true (by first | (with_reducible assumption) | assumption);obtain ⟨ad123, e123, hx123_0⟩ := Kd.at_bool (Kd.R_reads' HO_8.out).2.2 x36_2 p123 q123
            cases e123
            replace p123 := eq_true p123;replace q123 := eq_true q123
            refine start_ (n := 13) (S := fun w' => w'.cell? (ad122.add (x36_2).toNat) = some (.int .i64 (rd x7_2 x36_2)) ∧ w'.cell? (ad123.add (x36_2).toNat) = some (.bool (rdOf false t109 x36_2))) (ds := [12]) #[false, false, false, false, false, false, false, false, false, false, false, false, false] (by kernel_rfl) rfl rfl ⟨hx122_0, hx123_0⟩ (fun hHeld => ?_); refine with_tabW impl_tray_stuck.tab10 impl_tray_stuck.bits10 (fun HT_ HW_ => ?_)
            generalize wr.drew = w35 at HO_7 HO_8 HO_10 HO_102002 HO_122002 BK101 BK102 BK121 HB hx122_0 hx123_0 hHeld ⊢
            refine pure_ (i := 0) (N := some 39) (v := ?_) (a' := ?_) #[true, false, false, false, false, false, false, false, false, false, false, false, false] rfl rfl (any_of HT_.out (by kernel_rfl)) (fun _ _ _ h => h) (Or.inl ⟨by rfl, ?_⟩) ?_ ?_
            rotate_left
            ·intro w'
             go_simp
             with_reducible rfl
            rotate_left
            ·simp only [Act.put, List.setIfInBounds_toArray, List.set_cons_zero, List.set_cons_succ, i64_w, i32_w]
             rfl
            refine pure_ (i := 1) (N := some 40) (v := ?_) (a' := ?_) #[true, true, false, false, false, false, false, false, false, false, false, false, false] rfl rfl (any_of HT_.out (by kernel_rfl)) (fun _ _ _ h => h) (Or.inl ⟨by rfl, ?_⟩) ?_ ?_
            rotate_left
            ·intro w'
             go_simp
             with_reducible rfl
            rotate_left
            ·simp only [Act.put, List.setIfInBounds_toArray, List.set_cons_zero, List.set_cons_succ, i64_w, i32_w]
             rfl
            refine pure_ (i := 2) (N := some 41) (v := ?_) (a' := ?_) #[true, true, true, false, false, false, false, false, false, false, false, false, false] rfl rfl (any_of HT_.out (by kernel_rfl)) (fun _ _ _ h => h) (Or.inl ⟨by rfl, ?_⟩) ?_ ?_
            rotate_left
            ·intro w'
             go_simp
             with_reducible rfl
            rotate_left
            ·simp only [Act.put, List.setIfInBounds_toArray, List.set_cons_zero, List.set_cons_succ, i64_w, i32_w]
             rfl
            refine pure_ (i := 4) (N := some 43) (v := ?_) (a' := ?_) #[true, true, true, false, true, false, false, false, false, false, false, false, false] rfl rfl (any_of HT_.out (by kernel_rfl)) (fun _ _ _ h => h) (Or.inl ⟨by rfl, ?_⟩) ?_ ?_
            rotate_left
            ·intro w'
             go_simp
             with_reducible rfl
            rotate_left
            ·simp only [Act.put, List.setIfInBounds_toArray, List.set_cons_zero, List.set_cons_succ, i64_w, i32_w]
             rfl
            refine pure_ (i := 5) (N := some 44) (v := ?_) (a' := ?_) #[true, true, true, false, true, true, false, false, false, false, false, false, false] rfl rfl (any_of HT_.out (by kernel_rfl)) (fun _ _ _ h => h) (Or.inl ⟨by rfl, ?_⟩) ?_ ?_
            rotate_left
            ·intro w'
             go_simp
             with_reducible rfl
            rotate_left
            ·simp only [Act.put, List.setIfInBounds_toArray, List.set_cons_zero, List.set_cons_succ, i64_w, i32_w]
             rfl
            refine pure_ (i := 6) (N := some 45) (v := ?_) (a' := ?_) #[true, true, true, false, true, true, true, false, false, false, false, false, false] rfl rfl (any_of HT_.out (by kernel_rfl)) (fun _ _ _ h => h) (Or.inl ⟨by rfl, ?_⟩) ?_ ?_
            rotate_left
            ·intro w'
             go_simp
             with_reducible rfl
            rotate_left
            ·simp only [Act.put, List.setIfInBounds_toArray, List.set_cons_zero, List.set_cons_succ, i64_w, i32_w]
             rfl
            refine take_ (i := 3) (N := some 42) (v := ?_) (a' := ?_) #[true, true, true, true, true, true, true, false, false, false, false, false, false] rfl rfl (take_ofW HT_.out HW_.out (by kernel_rfl)) (fun _ _ _ h => h) (Or.inl ⟨by rfl, ?_⟩) hHeld ?_ ?_
            rotate_left
            ·rintro w' ⟨s0, s1⟩
             go_simp
             with_reducible rfl
            rotate_left
            ·simp only [Act.put, List.setIfInBounds_toArray, List.set_cons_zero, List.set_cons_succ, i64_w, i32_w]
             rfl
            refine take_ (i := 7) (N := some 46) (v := ?_) (a' := ?_) #[true, true, true, true, true, true, true, true, false, false, false, false, false] rfl rfl (take_ofW HT_.out HW_.out (by kernel_rfl)) (fun _ _ _ h => h) (Or.inl ⟨by rfl, ?_⟩) hHeld ?_ ?_
            rotate_left
            ·rintro w' ⟨s0, s1⟩
             go_simp
             with_reducible rfl
            rotate_left
            ·simp only [Act.put, List.setIfInBounds_toArray, List.set_cons_zero, List.set_cons_succ, i64_w, i32_w]
             rfl
            refine pure_ (i := 8) (N := some 47) (v := ?_) (a' := ?_) #[true, true, true, true, true, true, true, true, true, false, false, false, false] rfl rfl (any_of HT_.out (by kernel_rfl)) (fun _ _ _ h => h) (Or.inl ⟨by rfl, ?_⟩) ?_ ?_
            rotate_left
            ·intro w'
             go_simp
             with_reducible rfl
            rotate_left
            ·simp only [Act.put, List.setIfInBounds_toArray, List.set_cons_zero, List.set_cons_succ, i64_w, i32_w]
             rfl
            refine one_ (i := 9) (N := some 48) #[true, true, true, true, true, true, true, true, true, true, false, false, false] rfl rfl (one_of HT_.out (by kernel_rfl)) (by decide) (fun K hK => ?_)
            refine goes_ Tryd.func56 (by kernel_rfl) rfl #[.bool (!(rdOf false t109 x36_2))] (by rfl) rfl rfl (by (try simp only [List.map_toArray, List.map_cons, List.map_nil]); first | done | rfl | (simp only [List.length_drop, List.length_take]; rfl)) ?_
            with_reducible refine (impl_bit.calls (!(rdOf false t109 x36_2)) t124 _ A33.out).mono ?_
            rintro e w' ⟨rfl, ⟨nd, rfl⟩⟩
            refine ⟨_, rfl, ?_⟩
            have p34 : 0 ≤ (x36_2 : Int) := of_decide_eq_true (by first | (with_reducible assumption) | assumption);have q34 : (x36_2 : Int) < ((x7_2.length : Int) : Int) := of_decide_eq_true (by first | (with_reducible assumption) | assumption);obtain ⟨go34, co34, eo34, gb34, gl34, cl34, HG34⟩ := Kd.R_form HO_7.out (by omega)
            (first | cases eo34 | (injection eo34 with ea_ en_ ec_; (first | subst ea_ | (injection ea_ with ea_; subst ea_)); subst ec_; clear en_))
            have GB34 := Aside0.mk gb34;have GG34 := Aside0.mk HG34;clear gb34 gl34 HG34
            (first | simp only [add_plain] at hx122_0 | skip)
            obtain ⟨hx34_0, hf34_0⟩ := Kd.R_celln 0 HO_7.out (x36_2 : Int) p34 q34;replace p34 := eq_true p34;replace q34 := eq_true q34;have HP38 := Kd.R_putn HO_7.out (x36_2 : Int) (wrap64 ((rd x7_2 x36_2) + t124))
            rw [← Ny125.out] at HP38
            have HQ38 := Aside0.mk HP38;clear HP38
            refine hK.out _ _ ⟨hHeld.1, hHeld.2⟩ (fun hHeld => ?_)
            clear hK K
            refine norm_ (a' := ?_) ?_ ?_
            rotate_left
            ·show Act.put _ (some 48) _ = _
             simp only [Act.put, List.setIfInBounds_toArray, List.set_cons_zero, List.set_cons_succ, i64_w, i32_w]
             rfl
            refine pure_ (i := 10) (N := some 49) (v := ?_) (a' := ?_) #[true, true, true, true, true, true, true, true, true, true, true, false, false] rfl rfl (any_of HT_.out (by kernel_rfl)) (fun _ _ _ h => h) (Or.inl ⟨by rfl, ?_⟩) ?_ ?_
            rotate_left
            ·intro w'
             go_simp
             with_reducible rfl
            rotate_left
            ·simp only [Act.put, List.setIfInBounds_toArray, List.set_cons_zero, List.set_cons_succ, i64_w, i32_w]
             rfl
            refine pure_ (i := 11) (N := some 50) (v := ?_) (a' := ?_) #[true, true, true, true, true, true, true, true, true, true, true, true, false] rfl rfl (any_of HT_.out (by kernel_rfl)) (fun _ _ _ h => h) (Or.inl ⟨by rfl, ?_⟩) ?_ ?_
            rotate_left
            ·intro w'
             go_simp
             with_reducible rfl
            rotate_left
            ·simp only [Act.put, List.setIfInBounds_toArray, List.set_cons_zero, List.set_cons_succ, i64_w, i32_w]
             rfl
            refine last_ (i := 12) (N := none) #[true, true, true, true, true, true, true, true, true, true, true, true, true] rfl rfl (one_of HT_.out (by kernel_rfl)) (by decide) (fun K hK => ?_)
            refine skip_ (w1 := ?_) (by rfl) rfl ?_ ?_
            rotate_left
            ·go_simp
             rfl
            refine hK.out _ _ ?_
            clear hK K
            refine done_ (done_of HT_.out (by kernel_rfl)) ?_
            try go_wp2
            go_roundg k2
            case measure => have := HK1.out; have := HK2.out; omega
            case rel => exact ⟨(y125), (wrap64 (x36_2 + 1)), (by first | rfl | (simp; done) | (simp [*]; done)), H', ⟨by have := HK1.out; have := HK2.out; omega⟩, ⟨by (with_reducible repeat (first | apply Kd.R_alloc | apply Kd.R_drewN | apply Kd.R_drew)); exact HQ38.out⟩, ⟨by (with_reducible repeat (first | apply Kd.R_alloc | apply Kd.R_drewN | apply Kd.R_drew)); exact Kd.R_mono (Kd.R_far (p := ⟨go34, (x36_2 : Int).toNat, none⟩) (Kd.R_types HO_8.out GG34.out (by decide)) (fun _ hk => hk.2) (.int .i64 (wrap64 ((rd x7_2 x36_2) + t124)))) (fun _ hk => hk.1)⟩, ⟨by (with_reducible repeat (first | apply Kd.S_alloc | apply Kd.S_drewN | apply Kd.S_drew)); exact Kd.S_mono (Kd.S_far (p := ⟨go34, (x36_2 : Int).toNat, none⟩) (Kd.S_mono HO_10.out (fun k_ hk => (⟨hk, fun e_ => hk.2 (by rw [e_]; rfl)⟩ : _ ∧ k_ ≠ go34))) (fun _ hk => hk.2) (.int .i64 (wrap64 ((rd x7_2 x36_2) + t124)))) (fun _ hk => ⟨hk.1.1, hk.1.2⟩)⟩, ⟨by (with_reducible repeat (first | apply Kd.V_alloc | apply Kd.V_drewN | apply Kd.V_drew)); exact Kd.V_mono (Kd.V_far (p := ⟨go34, (x36_2 : Int).toNat, none⟩) (Kd.V_mono HO_102002.out (fun k_ hk => (⟨hk, fun e_ => hk.2.1 (by rw [e_]; rfl)⟩ : _ ∧ k_ ≠ go34))) (fun _ hk => hk.2) (.int .i64 (wrap64 ((rd x7_2 x36_2) + t124)))) (fun _ hk => ⟨hk.1.1, ⟨hk.1.2.1, ⟨hk.1.2.2.1, ⟨hk.1.2.2.2.1, ⟨hk.1.2.2.2.2.1, ⟨hk.1.2.2.2.2.2.1, ⟨hk.1.2.2.2.2.2.2.1, hk.1.2.2.2.2.2.2.2⟩⟩⟩⟩⟩⟩⟩)⟩, ⟨by (with_reducible repeat (first | apply Kd.R_alloc | apply Kd.R_drewN | apply Kd.R_drew)); exact Kd.R_mono (Kd.R_far (p := ⟨go34, (x36_2 : Int).toNat, none⟩) (Kd.R_types HO_122002.out GG34.out (by decide)) (fun _ hk => hk.2) (.int .i64 (wrap64 ((rd x7_2 x36_2) + t124)))) (fun _ hk => hk.1)⟩, ⟨by (with_reducible repeat (first | refine blk_drewN ?_ _ | refine blk_drew ?_ | refine blk_alloc ?_ _)); refine blk_far ?_ (by have h_ := Kd.R_ne HO_7.out BK101.out (by decide); intro e_; exact h_ (by rw [e_]; rfl)) _; exact blc⟩, ⟨by (with_reducible repeat (first | refine blk_drewN ?_ _ | refine blk_drew ?_ | refine blk_alloc ?_ _)); refine blk_far ?_ (by have h_ := Kd.R_ne HO_7.out BK102.out (by decide); intro e_; exact h_ (by rw [e_]; rfl)) _; exact blc⟩, ⟨by (with_reducible repeat (first | refine blk_drewN ?_ _ | refine blk_drew ?_ | refine blk_alloc ?_ _)); refine blk_far ?_ (by have h_ := Kd.R_ne HO_7.out BK121.out (by decide); intro e_; exact h_ (by rw [e_]; rfl)) _; exact blc⟩, ⟨bel HB⟩⟩
           ·rw [if_neg c32] at H
            exact absurd H (by simp)
          ·rw [if_neg c31] at H
           exact absurd H (by simp)
         ·rw [if_neg c30] at H
          exact absurd H (by simp)
        ·rw [if_neg c29] at H
         have c29b0 : decide (x36_2 < (x6_1.length : Int)) = false := decide_eq_false c29;clear c29;have H' := Aside0.mk H;clear H;have hnb39 := NB121_101.out;have hnc39 := NB101_121.out;have hnb40 := NB121_102.out;have hnc40 := NB102_121.out;have hcz41_0 : wr.cell? ⟨gb121, 0, none⟩ = some (.int .i64 t112) := (blk_cell BK121.out 0).trans rfl;have hcz41_1 : wr.cell? ⟨gb121, 1, none⟩ = some (.int .i64 t113) := (blk_cell BK121.out 1).trans rfl;have hcz41_2 : wr.cell? ⟨gb121, 2, none⟩ = some (.slice Ao28 t114.length co28) := (blk_cell BK121.out 2).trans rfl;have hfz41_0 := blk_frozen BK121.out 0;have hfz41_1 := blk_frozen BK121.out 1;have hfz41_2 := blk_frozen BK121.out 2;have hnb42 := NB101_102.out;have hnc42 := NB102_101.out;have hcz43_0 : wr.cell? ⟨gb101, 0, none⟩ = some (.int .i64 x102000_1) := (blk_cell BK101.out 0).trans rfl;have hcz43_1 : wr.cell? ⟨gb101, 1, none⟩ = some (.int .i64 x102001_1) := (blk_cell BK101.out 1).trans rfl;have hcz43_2 : wr.cell? ⟨gb101, 2, none⟩ = some (.slice Ao19 x102002_1.length co19) := (blk_cell BK101.out 2).trans rfl;have hfz43_0 := blk_frozen BK101.out 0;have hfz43_1 := blk_frozen BK101.out 1;have hfz43_2 := blk_frozen BK101.out 2
         go_wp2
         go_roundg k2
         case measure => have := HK1.out; have := HK2.out; omega
         case rel => exact ⟨(t117), (x7_2), (t112), (t113), (t114), (x103000_1), (x103001_1), (.slice Ao28 t114.length co28), H', ⟨by have := HK1.out; have := HK2.out; omega⟩, ⟨by (with_reducible repeat (first | apply Kd.S_alloc | apply Kd.S_drewN | apply Kd.S_drew)); exact Kd.S_mono (Kd.S_far (p := ⟨gb101, 2, none⟩) (Kd.S_far (p := ⟨gb101, 1, none⟩) (Kd.S_far (p := ⟨gb101, 0, none⟩) (Kd.S_types HO_10.out BK101.out (by decide)) (fun _ hk => hk.2) (.int .i64 t112)) (fun _ hk => hk.2) (.int .i64 t113)) (fun _ hk => hk.2) (.slice Ao28 t114.length co28)) (fun _ hk => ⟨hk.1.1, hk.1.2⟩)⟩, ⟨by (with_reducible repeat (first | apply Kd.R_alloc | apply Kd.R_drewN | apply Kd.R_drew)); exact Kd.R_mono (Kd.R_far (p := ⟨gb101, 2, none⟩) (Kd.R_far (p := ⟨gb101, 1, none⟩) (Kd.R_far (p := ⟨gb101, 0, none⟩) (Kd.R_types HO_7.out BK101.out (by decide)) (fun _ hk => hk.2) (.int .i64 t112)) (fun _ hk => hk.2) (.int .i64 t113)) (fun _ hk => hk.2) (.slice Ao28 t114.length co28)) (fun _ hk => hk.1)⟩, ⟨(by first | exact V_orR (by (with_reducible repeat (first | apply Kd.R_alloc | apply Kd.R_drewN | apply Kd.R_drew)); exact Kd.R_mono (Kd.R_far (p := ⟨gb101, 2, none⟩) (Kd.R_far (p := ⟨gb101, 1, none⟩) (Kd.R_far (p := ⟨gb101, 0, none⟩) (Kd.R_types (Kd.R_types (Kd.R_types (Kd.R_apart' (Kd.R_apart' HO_122002.out (Kd.S_typed HO_10.out) (by decide)) (Kd.R_typed HO_7.out) (by decide)) BK101.out (by decide)) BK102.out (by decide)) BK101.out (by decide)) (fun _ hk => hk.2) (.int .i64 t112)) (fun _ hk => hk.2) (.int .i64 t113)) (fun _ hk => hk.2) (.slice Ao28 t114.length co28)) (fun _ hk => ⟨hk.1.1.1.1.1, ⟨hk.1.1.1.1.2, ⟨hk.1.1.1.2, ⟨hk.1.1.2, hk.1.2⟩⟩⟩⟩)) | exact V_orR0 (by (with_reducible repeat (first | apply Kd.R_alloc | apply Kd.R_drewN | apply Kd.R_drew)); exact Kd.R_mono (Kd.R_far (p := ⟨gb101, 2, none⟩) (Kd.R_far (p := ⟨gb101, 1, none⟩) (Kd.R_far (p := ⟨gb101, 0, none⟩) (Kd.R_types (Kd.R_types (Kd.R_types (Kd.R_apart' (Kd.R_apart' HO_122002.out (Kd.S_typed HO_10.out) (by decide)) (Kd.R_typed HO_7.out) (by decide)) BK101.out (by decide)) BK102.out (by decide)) BK101.out (by decide)) (fun _ hk => hk.2) (.int .i64 t112)) (fun _ hk => hk.2) (.int .i64 t113)) (fun _ hk => hk.2) (.slice Ao28 t114.length co28)) (fun _ hk => ⟨hk.1.1.1.1.1, ⟨hk.1.1.1.1.2, ⟨hk.1.1.1.2, ⟨hk.1.1.2, hk.1.2⟩⟩⟩⟩)))⟩, ⟨by (with_reducible repeat (first | refine blk_drewN ?_ _ | refine blk_drew ?_ | refine blk_alloc ?_ _)); refine blk_put (cs := #[.int .i64 t112, .int .i64 t113, .slice Ao19 x102002_1.length co19]) ?_ 2 _ rfl; (with_reducible repeat (first | refine blk_drewN ?_ _ | refine blk_drew ?_ | refine blk_alloc ?_ _)); refine blk_put (cs := #[.int .i64 t112, .int .i64 x102001_1, .slice Ao19 x102002_1.length co19]) ?_ 1 _ rfl; (with_reducible repeat (first | refine blk_drewN ?_ _ | refine blk_drew ?_ | refine blk_alloc ?_ _)); refine blk_put (cs := #[.int .i64 x102000_1, .int .i64 x102001_1, .slice Ao19 x102002_1.length co19]) ?_ 0 _ rfl; exact blc⟩, ⟨by (with_reducible repeat (first | refine blk_drewN ?_ _ | refine blk_drew ?_ | refine blk_alloc ?_ _)); refine blk_far ?_ NB102_101.out _; (with_reducible repeat (first | refine blk_drewN ?_ _ | refine blk_drew ?_ | refine blk_alloc ?_ _)); refine blk_far ?_ NB102_101.out _; (with_reducible repeat (first | refine blk_drewN ?_ _ | refine blk_drew ?_ | refine blk_alloc ?_ _)); refine blk_far ?_ NB102_101.out _; exact blc⟩, ⟨bel HB⟩⟩
     ·replace c16 := Bool.eq_false_iff.mpr c16
      subst c16
      have H1 : (some (x102000_1, x102001_1, x102002_1, x7_1)) = some (r1, r2, r3, r4) := by rw [if_neg (show ¬ (false = true) by decide)] at H; exact H
      clear H;have H := H1;clear H1
      simp only [Option.some.injEq, Prod.mk.injEq] at H
      obtain ⟨rfl, rfl, rfl, rfl⟩ := H;have hnb44 := NB101_102.out;have hnc44 := NB102_101.out;have hcz45_0 : wr.cell? ⟨gb101, 0, none⟩ = some (.int .i64 x102000_1) := (blk_cell BK101.out 0).trans rfl;have hcz45_1 : wr.cell? ⟨gb101, 1, none⟩ = some (.int .i64 x102001_1) := (blk_cell BK101.out 1).trans rfl;have hcz45_2 : wr.cell? ⟨gb101, 2, none⟩ = some (u102002) := (blk_cell BK101.out 2).trans rfl;have hfz45_0 := blk_frozen BK101.out 0;have hfz45_1 := blk_frozen BK101.out 1;have hfz45_2 := blk_frozen BK101.out 2;obtain ⟨Ao46, co46, eo46⟩ := Kd.V_slice HO_102002.out;subst eo46;obtain ⟨Ao47, co47, eo47⟩ := Kd.S_slice HO_6.out;subst eo47
      go_wp2_with (first | ((with_reducible refine gate_callee (f := 54) rfl ?_); refine gcall (some 21) Tryd.func54 #[.agg #[.int .i64 x102000_1, .int .i64 x102001_1, .slice Ao46 x102002_1.length co46], .slice Ao47 x6_1.length co47, .int .u8 a1] rfl ?_; (with_reducible refine (impl_tray_blocked.calls x102000_1 x102001_1 _ _ x102002_1 _ _ x6_1 a1 t109 _ ?side1 ?side2 ?side3 ?side4 A14.out).mono ?_); (case side1 => repeat (first | exact (Kd.V_reads' HO_102002.out).2.2 | (with_reducible refine Kd.C_alloc ?_ _) | (with_reducible refine Kd.C_drewN ?_ _) | (with_reducible refine Kd.C_drew ?_))); (case side2 => exact (Kd.V_reads' HO_102002.out).2.1); (case side3 => repeat (first | exact (Kd.S_reads' HO_6.out).2.2 | (with_reducible refine Kd.C_alloc ?_ _) | (with_reducible refine Kd.C_drewN ?_ _) | (with_reducible refine Kd.C_drew ?_))); (case side4 => exact (Kd.S_reads' HO_6.out).2.1); rintro e w48 ⟨v110, rfl, ho0, hb⟩; refine ⟨_, rfl, ?_⟩; have n0_ := Aside0.mk (Kd.S_below (by (with_reducible repeat (first | apply Kd.S_alloc | apply Kd.S_drewN | apply Kd.S_drew)); (first | exact HO_6.out | exact R_any HO_6.out)) hb); have n1_ := Aside0.mk (Kd.R_below (rch HO_7) hb); have n2_ := Aside0.mk (Kd.V_elder' (by (with_reducible repeat (first | apply Kd.V_alloc | apply Kd.V_drewN | apply Kd.V_drew)); (first | exact HO_102002.out | exact R_any HO_102002.out)) (Kd.R_base ho0) hb); have n3_ := Aside0.mk (Kd.R_lower (Kd.R_newM (M := fun k_ => (w.heap.size ≤ k_)) ho0 (below_size (bel HB)) (fun k_ h_ => h_)) (below_size (bel HB))); have n4_ := Aside0.mk (blk_below (g := gb101) (o := .cells #[.int .i64 x102000_1, .int .i64 x102001_1, .slice Ao46 x102002_1.length co46] 41 (0, 0)) blc hb); have n5_ := Aside0.mk (blk_below (g := gb102) (o := .cells #[.int .i64 x103000_1, .int .i64 x103001_1, .slice none 0 0] 41 (0, 0)) blc hb); have n6_ := Aside0.mk (below_step (bel HB) hb); clear HO_6; clear HO_7; clear HO_102002; clear BK101; clear BK102; clear HB; have HO_6 := n0_; have HO_7 := n1_; have HO_102002 := n2_; have HO111 := n3_; have BK101 := n4_; have BK102 := n5_; have HB := n6_; clear n0_ n1_ n2_ n3_ n4_ n5_ n6_; (try clear hb); (try clear hb2); (try clear hk); (try clear hi); (try clear ho0); have hcz49_0 : w48.cell? ⟨gb101, 0, none⟩ = some (.int .i64 x102000_1) := (blk_cell BK101.out 0).trans rfl; have hcz49_1 : w48.cell? ⟨gb101, 1, none⟩ = some (.int .i64 x102001_1) := (blk_cell BK101.out 1).trans rfl; have hcz49_2 : w48.cell? ⟨gb101, 2, none⟩ = some (.slice Ao46 x102002_1.length co46) := (blk_cell BK101.out 2).trans rfl; have hfz49_0 := blk_frozen BK101.out 0; have hfz49_1 := blk_frozen BK101.out 1; have hfz49_2 := blk_frozen BK101.out 2) | ((with_reducible refine gate_callee (f := 55) rfl ?_); refine gcall (some 26) Tryd.func55 #[.agg #[.int .i64 x102000_1, .int .i64 x102001_1, .slice Ao46 x102002_1.length co46], .slice Ao47 x6_1.length co47, .int .u8 a1] rfl ?_; (with_reducible refine (impl_tray_stuckStep.calls x102000_1 x102001_1 _ _ x102002_1 _ _ x6_1 a1 t112 t113 t114 t117 false _ ?side1 ?side2 ?side3 ?side4 A15.out).mono ?_); (case side1 => repeat (first | exact (Kd.V_reads' HO_102002.out).2.2 | (with_reducible refine Kd.C_alloc ?_ _) | (with_reducible refine Kd.C_drewN ?_ _) | (with_reducible refine Kd.C_drew ?_))); (case side2 => exact (Kd.V_reads' HO_102002.out).2.1); (case side3 => repeat (first | exact (Kd.S_reads' HO_6.out).2.2 | (with_reducible refine Kd.C_alloc ?_ _) | (with_reducible refine Kd.C_drewN ?_ _) | (with_reducible refine Kd.C_drew ?_))); (case side4 => exact (Kd.S_reads' HO_6.out).2.1); rintro e w50 ⟨v115, v118, rfl, ho0, ho1, hb⟩; refine ⟨_, rfl, ?_⟩; have n0_ := Aside0.mk (Kd.S_elder' (by (with_reducible repeat (first | apply Kd.S_alloc | apply Kd.S_drewN | apply Kd.S_drew)); (first | exact HO_6.out | exact R_any HO_6.out)) (Kd.S_base ho1) hb); have n1_ := Aside0.mk (Kd.R_below (rch HO_7) hb); have n2_ := Aside0.mk (Kd.V_mono (Kd.V_told (Kd.V_told (Kd.V_old (by (with_reducible repeat (first | apply Kd.V_alloc | apply Kd.V_drewN | apply Kd.V_drew)); (first | exact HO_102002.out | exact R_any HO_102002.out)) hb) (Kd.R_base ho0)) (Kd.S_base ho1)) (fun _ h_ => h_.1)); have n3_ := Aside0.mk (Kd.R_below (rch HO111) hb); have n4_ := Aside0.mk (Kd.R_lower (Kd.R_newM (M := fun k_ => (w.heap.size ≤ k_)) ho0 (below_size (bel HB)) (fun k_ h_ => h_)) (below_size (bel HB))); have n5_ := Aside0.mk (Kd.S_lower (Kd.S_new' (Kd.S_new' (Kd.S_newM (M := fun k_ => (w.heap.size ≤ k_)) ho1 (below_size (bel HB)) (fun k_ h_ => h_)) (Kd.S_lt (by (with_reducible repeat (first | apply Kd.S_alloc | apply Kd.S_drewN | apply Kd.S_drew)); (first | exact HO_6.out | exact R_any HO_6.out)))) (Kd.R_lt (rch HO_7))) (below_size (bel HB))); have n6_ := Aside0.mk (blk_below (g := gb101) (o := .cells #[.int .i64 x102000_1, .int .i64 x102001_1, .slice Ao46 x102002_1.length co46] 41 (0, 0)) blc hb); have n7_ := Aside0.mk (blk_below (g := gb102) (o := .cells #[.int .i64 x103000_1, .int .i64 x103001_1, .slice none 0 0] 41 (0, 0)) blc hb); have n8_ := Aside0.mk (below_step (bel HB) hb); clear HO_6; clear HO_7; clear HO_102002; clear HO111; clear BK101; clear BK102; clear HB; have HO_6 := n0_; have HO_7 := n1_; have HO_102002 := n2_; have HO111 := n3_; have HO116 := n4_; have HO119 := n5_; have BK101 := n6_; have BK102 := n7_; have HB := n8_; clear n0_ n1_ n2_ n3_ n4_ n5_ n6_ n7_ n8_; (try clear hb); (try clear hb2); (try clear hk); (try clear hi); (try clear ho0); (try clear ho1)) | ((with_reducible refine gate_dst (N := 9) rfl ?_); refine boxE (N := 9) (cs := #[.int .i64 0, .int .i64 0, .slice none 0 0]) (t := 41) ?_; intro gb121 hg w51 hbox hb; have n0_ := Aside0.mk (Kd.S_below (by (with_reducible repeat (first | apply Kd.S_alloc | apply Kd.S_drewN | apply Kd.S_drew)); (first | exact HO_6.out | exact R_any HO_6.out)) hb); have n1_ := Aside0.mk (Kd.R_below (rch HO_7) hb); have n2_ := Aside0.mk (Kd.V_below (Kd.V_elderB (by (with_reducible repeat (first | apply Kd.V_alloc | apply Kd.V_drewN | apply Kd.V_drew)); (first | exact HO_102002.out | exact R_any HO_102002.out)) gb121 (Nat.le_of_eq hg.symm)) hb); have n3_ := Aside0.mk (Kd.R_below (rch HO111) hb); have n4_ := Aside0.mk (Kd.R_below (rch HO116) hb); have n5_ := Aside0.mk (Kd.S_below (by (with_reducible repeat (first | apply Kd.S_alloc | apply Kd.S_drewN | apply Kd.S_drew)); (first | exact HO119.out | exact R_any HO119.out)) hb); have n6_ := Aside0.mk (blk_below (g := gb101) (o := .cells #[.int .i64 x102000_1, .int .i64 x102001_1, .slice Ao46 x102002_1.length co46] 41 (0, 0)) blc hb); have n7_ := Aside0.mk (blk_below (g := gb102) (o := .cells #[.int .i64 x103000_1, .int .i64 x103001_1, .slice none 0 0] 41 (0, 0)) blc hb); have n8_ := Aside0.mk (below_step (bel HB) hb); have n9_ := Aside0.mk (hbox); have n10_ := Aside0.mk (gsz hg (bel HB)); have n11_ := Aside0.mk (gsz hg (bel HB)); have n12_ := Aside0.mk ((by rw [hg]; exact Nat.ne_of_lt (blk_lt (g := gb101) (o := .cells #[.int .i64 x102000_1, .int .i64 x102001_1, .slice Ao46 x102002_1.length co46] 41 (0, 0)) blc) : gb101 ≠ gb121)); have n13_ := Aside0.mk ((by rw [hg]; exact Nat.ne_of_gt (blk_lt (g := gb101) (o := .cells #[.int .i64 x102000_1, .int .i64 x102001_1, .slice Ao46 x102002_1.length co46] 41 (0, 0)) blc) : gb121 ≠ gb101)); have n14_ := Aside0.mk ((by rw [hg]; exact Nat.ne_of_lt (blk_lt (g := gb102) (o := .cells #[.int .i64 x103000_1, .int .i64 x103001_1, .slice none 0 0] 41 (0, 0)) blc) : gb102 ≠ gb121)); have n15_ := Aside0.mk ((by rw [hg]; exact Nat.ne_of_gt (blk_lt (g := gb102) (o := .cells #[.int .i64 x103000_1, .int .i64 x103001_1, .slice none 0 0] 41 (0, 0)) blc) : gb121 ≠ gb102)); clear HO_6; clear HO_7; clear HO_102002; clear HO111; clear HO116; clear HO119; clear BK101; clear BK102; clear HB; have HO_6 := n0_; have HO_7 := n1_; have HO_102002 := n2_; have HO111 := n3_; have HO116 := n4_; have HO119 := n5_; have BK101 := n6_; have BK102 := n7_; have HB := n8_; have BK121 := n9_; have GW121 := n10_; have GE121 := n11_; have NB101_121 := n12_; have NB121_101 := n13_; have NB102_121 := n14_; have NB121_102 := n15_; clear n0_ n1_ n2_ n3_ n4_ n5_ n6_ n7_ n8_ n9_ n10_ n11_ n12_ n13_ n14_ n15_; clear hb hbox hg; have hnb52 := NB121_101.out; have hnc52 := NB101_121.out; have hnb53 := NB121_102.out; have hnc53 := NB102_121.out; have hcz54_0 : w51.cell? ⟨gb121, 0, none⟩ = some (.int .i64 0) := (blk_cell BK121.out 0).trans rfl; have hcz54_1 : w51.cell? ⟨gb121, 1, none⟩ = some (.int .i64 0) := (blk_cell BK121.out 1).trans rfl; have hcz54_2 : w51.cell? ⟨gb121, 2, none⟩ = some (.slice none 0 0) := (blk_cell BK121.out 2).trans rfl; have hfz54_0 := blk_frozen BK121.out 0; have hfz54_1 := blk_frozen BK121.out 1; have hfz54_2 := blk_frozen BK121.out 2; obtain ⟨Ao55, co55, eo55⟩ := Kd.R_slice HO116.out; subst eo55; have hcz56_0 : w51.cell? ⟨gb101, 0, none⟩ = some (.int .i64 x102000_1) := (blk_cell BK101.out 0).trans rfl; have hcz56_1 : w51.cell? ⟨gb101, 1, none⟩ = some (.int .i64 x102001_1) := (blk_cell BK101.out 1).trans rfl; have hcz56_2 : w51.cell? ⟨gb101, 2, none⟩ = some (.slice Ao46 x102002_1.length co46) := (blk_cell BK101.out 2).trans rfl; have hfz56_0 := blk_frozen BK101.out 0; have hfz56_1 := blk_frozen BK101.out 1; have hfz56_2 := blk_frozen BK101.out 2; have hcz57_0 : w51.cell? ⟨gb102, 0, none⟩ = some (.int .i64 x103000_1) := (blk_cell BK102.out 0).trans rfl; have hcz57_1 : w51.cell? ⟨gb102, 1, none⟩ = some (.int .i64 x103001_1) := (blk_cell BK102.out 1).trans rfl; have hcz57_2 : w51.cell? ⟨gb102, 2, none⟩ = some (.slice none 0 0) := (blk_cell BK102.out 2).trans rfl; have hfz57_0 := blk_frozen BK102.out 0; have hfz57_1 := blk_frozen BK102.out 1; have hfz57_2 := blk_frozen BK102.out 2))
      refine bodyPost_ret (results_ct rfl _ _ gb102 41 #[.int .i64 x102000_1, .int .i64 x102001_1, .slice Ao46 x102002_1.length co46] (0, 0) _ rfl (by (with_reducible repeat (first | refine blk_drewN ?_ _ | refine blk_drew ?_ | refine blk_alloc ?_ _)); refine blk_put (cs := #[.int .i64 x102000_1, .int .i64 x102001_1, .slice none 0 0]) ?_ 2 _ rfl; (with_reducible repeat (first | refine blk_drewN ?_ _ | refine blk_drew ?_ | refine blk_alloc ?_ _)); refine blk_put (cs := #[.int .i64 x102000_1, .int .i64 x103001_1, .slice none 0 0]) ?_ 1 _ rfl; (with_reducible repeat (first | refine blk_drewN ?_ _ | refine blk_drew ?_ | refine blk_alloc ?_ _)); refine blk_put (cs := #[.int .i64 x103000_1, .int .i64 x103001_1, .slice none 0 0]) ?_ 0 _ rfl; (with_reducible repeat (first | refine blk_drewN ?_ _ | refine blk_drew ?_ | refine blk_alloc ?_ _)); refine blk_far ?_ NB102_121.out _; (with_reducible repeat (first | refine blk_drewN ?_ _ | refine blk_drew ?_ | refine blk_alloc ?_ _)); refine blk_far ?_ NB102_121.out _; (with_reducible repeat (first | refine blk_drewN ?_ _ | refine blk_drew ?_ | refine blk_alloc ?_ _)); refine blk_far ?_ NB102_121.out _; exact blc) Tryd.underlying41 rfl (by kernel_rfl)) rfl ?_
      exact ⟨_, _, by first | rfl | (simp [errW_none, errW_some] <;> rfl) | (simp [*, errW_none, errW_some] <;> rfl), by (with_reducible repeat (first | apply Kd.V_alloc | apply Kd.V_drewN | apply Kd.V_drew)); exact Kd.V_mono (Kd.V_far (p := ⟨gb102, 2, none⟩) (Kd.V_far (p := ⟨gb102, 1, none⟩) (Kd.V_far (p := ⟨gb102, 0, none⟩) (Kd.V_far (p := ⟨gb121, 2, none⟩) (Kd.V_far (p := ⟨gb121, 1, none⟩) (Kd.V_far (p := ⟨gb121, 0, none⟩) (Kd.V_mono (Kd.V_mono HO_102002.out (fun k_ hk => (⟨hk, hk.2⟩ : _ ∧ k_ ≠ gb121))) (fun k_ hk => (⟨hk, hk.1.1.1.1.1.2.2.2.2⟩ : _ ∧ k_ ≠ gb102))) (fun _ hk => hk.1.2) (.int .i64 t112)) (fun _ hk => hk.1.2) (.int .i64 t113)) (fun _ hk => hk.1.2) (.slice Ao55 t114.length co55)) (fun _ hk => hk.2) (.int .i64 x102000_1)) (fun _ hk => hk.2) (.int .i64 x102001_1)) (fun _ hk => hk.2) (.slice Ao46 x102002_1.length co46)) (fun _ hk => ⟨hk.1.1.1.1.1.1.1, hk.1.1.1.1.1.1.2.2.1⟩), by (with_reducible repeat (first | apply Kd.R_alloc | apply Kd.R_drewN | apply Kd.R_drew)); exact Kd.R_mono (Kd.R_far (p := ⟨gb102, 2, none⟩) (Kd.R_far (p := ⟨gb102, 1, none⟩) (Kd.R_far (p := ⟨gb102, 0, none⟩) (Kd.R_far (p := ⟨gb121, 2, none⟩) (Kd.R_far (p := ⟨gb121, 1, none⟩) (Kd.R_far (p := ⟨gb121, 0, none⟩) (Kd.R_types (Kd.R_types HO_7.out BK121.out (by decide)) BK102.out (by decide)) (fun _ hk => hk.1.2) (.int .i64 t112)) (fun _ hk => hk.1.2) (.int .i64 t113)) (fun _ hk => hk.1.2) (.slice Ao55 t114.length co55)) (fun _ hk => hk.2) (.int .i64 x102000_1)) (fun _ hk => hk.2) (.int .i64 x102001_1)) (fun _ hk => hk.2) (.slice Ao46 x102002_1.length co46)) (fun _ hk => hk.1.1), bel HB⟩
  ·rw [if_neg c5] at H
   exact absurd H (by simp)
 ·rw [if_neg c4] at H
  exact absurd H (by simp)
end Go.Proofs.YtkjlfgceodindaaDoor.Q
end
section
namespace Go.Proofs.YtkjlfgceodindaaDoor.Q
open Go.RowKit Go.Proofs.YtkjlfgceodindaaDoorW.PrintWords Go.Proofs.YtkjlfgceodindaaDoorW.PrintLast Go.Proofs.YtkjlfgceodindaaDoorW.PrintMore
attribute [local go_sem] max2_int min2_int max_two min_two max_three min_three max_four min_four
set_option linter.unusedVariables false
set_option linter.unusedSimpArgs false
def impl_tray_stuckAll.l0 : Nat → List Int → Int → Int → Int → Int → List Int → Option (Int × Int × List Int)
 | 0, _, _, _, _, _, _ => none
 | k + 1, x8, x9, x10, x102000, x102001, x102002 => if x10 < x9 then (if 0 ≤ x10 then (if x10 < (x8.length : Int) then ((impl_tray_stuck.f k x102000 x102001 x102002 (rd x8 x10)).bind fun bt107 => (impl_tray_stuckAll.l0 k x8 x9 (wrap64 (x10 + 1)) bt107.1 bt107.2.1 bt107.2.2.1)) else (none)) else (none)) else (some (x102000, x102001, x102002))
def impl_tray_stuckAll.f (k : Nat) (a0_0 : Int) (a0_1 : Int) (l0_2 : List Int) (a1 : ByteArray) : Option (Int × Int × List Int) := (convB.f a1).bind fun t103 => (impl_tray_stuckAll.l0 k t103 (t103.length : Int) 0 a0_0 a0_1 l0_2)
set_option maxHeartbeats 8000000 in
set_option maxRecDepth 100000 in
theorem impl_tray_stuckAll.calls (k : Nat) (a0_0 : Int) (a0_1 : Int) (P0_2_ : Nat → Prop) (A0_2 : Option Addr) (c0_2 : Nat) (l0_2 : List Int) (a1 : ByteArray) (r1 : Int) (r2 : Int) (r3 : List Int) (w : World) (hs0_2 : Kd.V (Kd.int .u8) 5 w w.heap.size (fun k_ => P0_2_ k_) (.slice A0_2 l0_2.length c0_2) l0_2) (h : impl_tray_stuckAll.f k a0_0 a0_1 l0_2 a1 = some (r1, r2, r3)) :
  Calls Tryd.prog 18 #[.agg #[.int .i64 a0_0, .int .i64 a0_1, .slice A0_2 l0_2.length c0_2], .string a1] w fun e w' => ∃ v2_ : Value, e = .returned (.agg #[.int .i64 r1, .int .i64 r2, v2_]) ∧ Kd.V (Kd.int .u8) 5 w' w.heap.size (fun k_ => (P0_2_ k_ ∨ w.heap.size ≤ k_)) v2_ r3 ∧ Below w.heap.size w w' := by
 have hu41 := Tryd.underlying41;have HO0_2 := Aside0.mk (show Kd.V (Kd.int .u8) 5 w w.heap.size (fun k_ => (P0_2_ k_ ∨ w.heap.size ≤ k_)) (.slice A0_2 l0_2.length c0_2) l0_2 from Kd.V_mono hs0_2 (fun k_ hk => .inl hk));have HB := Aside0.mk (Below.refl w.heap.size w);have H : ((convB.f a1).bind fun t103 => (impl_tray_stuckAll.l0 k t103 (t103.length : Int) 0 a0_0 a0_1 l0_2)) = some (r1, r2, r3) := h;clear h;replace H := Option.bind_eq_some_iff.mp H;obtain ⟨t103, A30, H⟩ := H;replace H : (impl_tray_stuckAll.l0 k t103 (t103.length : Int) 0 a0_0 a0_1 l0_2) = some (r1, r2, r3) := H;have A3 := Aside0.mk A30;clear A30;have H' := Aside0.mk H;clear H
 go_enter Tryd.func18, Tryd.ntmps18
 go_wp2_with (first | ((with_reducible refine gate_dst (N := 2) rfl ?_); refine boxE (N := 2) (cs := #[.int .i64 a0_0, .int .i64 a0_1, .slice A0_2 l0_2.length c0_2]) (t := 41) ?_; intro gb101 hg w4 hbox hb; have n0_ := Aside0.mk (Kd.V_below (Kd.V_elderB (by (with_reducible repeat (first | apply Kd.V_alloc | apply Kd.V_drewN | apply Kd.V_drew)); (first | exact HO0_2.out | exact R_any HO0_2.out)) gb101 (Nat.le_of_eq hg.symm)) hb); have n1_ := Aside0.mk (below_step (bel HB) hb); have n2_ := Aside0.mk (hbox); have n3_ := Aside0.mk (gsz hg (bel HB)); have n4_ := Aside0.mk (gsz hg (bel HB)); clear HO0_2; clear HB; have HO0_2 := n0_; have HB := n1_; have BK101 := n2_; have GW101 := n3_; have GE101 := n4_; clear n0_ n1_ n2_ n3_ n4_; clear hb hbox hg) | ((with_reducible refine gate_dst (N := 4) rfl ?_); refine boxE (N := 4) (cs := #[.int .i64 0, .int .i64 0, .slice none 0 0]) (t := 41) ?_; intro gb102 hg w5 hbox hb; have n0_ := Aside0.mk (Kd.V_below (Kd.V_elderB (by (with_reducible repeat (first | apply Kd.V_alloc | apply Kd.V_drewN | apply Kd.V_drew)); (first | exact HO0_2.out | exact R_any HO0_2.out)) gb102 (Nat.le_of_eq hg.symm)) hb); have n1_ := Aside0.mk (blk_below (g := gb101) (o := .cells #[.int .i64 a0_0, .int .i64 a0_1, .slice A0_2 l0_2.length c0_2] 41 (0, 0)) blc hb); have n2_ := Aside0.mk (below_step (bel HB) hb); have n3_ := Aside0.mk (hbox); have n4_ := Aside0.mk (gsz hg (bel HB)); have n5_ := Aside0.mk (gsz hg (bel HB)); have n6_ := Aside0.mk ((by rw [hg]; exact Nat.ne_of_lt (blk_lt (g := gb101) (o := .cells #[.int .i64 a0_0, .int .i64 a0_1, .slice A0_2 l0_2.length c0_2] 41 (0, 0)) blc) : gb101 ≠ gb102)); have n7_ := Aside0.mk ((by rw [hg]; exact Nat.ne_of_gt (blk_lt (g := gb101) (o := .cells #[.int .i64 a0_0, .int .i64 a0_1, .slice A0_2 l0_2.length c0_2] 41 (0, 0)) blc) : gb102 ≠ gb101)); clear HO0_2; clear BK101; clear HB; have HO0_2 := n0_; have BK101 := n1_; have HB := n2_; have BK102 := n3_; have GW102 := n4_; have GE102 := n5_; have NB101_102 := n6_; have NB102_101 := n7_; clear n0_ n1_ n2_ n3_ n4_ n5_ n6_ n7_; clear hb hbox hg) | ((with_reducible refine gate_dst (N := 8) rfl ?_); refine convB.step rfl (N := 8) rfl 9 28 5 _ rfl Tryd.underlying9 Tryd.underlying28 Tryd.underlying5 rfl A3.out ?_; intro v104 w6 ho0 hb; have n0_ := Aside0.mk (Kd.V_below (by (with_reducible repeat (first | apply Kd.V_alloc | apply Kd.V_drewN | apply Kd.V_drew)); (first | exact HO0_2.out | exact R_any HO0_2.out)) hb); have n1_ := Aside0.mk (Kd.V_lower (Kd.V_mono (ok' := fun k_ => (P0_2_ k_ ∨ w.heap.size ≤ k_) ∧ k_ ≠ gb101 ∧ k_ ≠ gb102) ho0 (fun k_ hk_ => ⟨(.inr (Nat.le_trans (below_size (bel HB)) hk_)), (Kd.freshB (g := gb101) (o := .cells #[.int .i64 a0_0, .int .i64 a0_1, .slice A0_2 l0_2.length c0_2] 41 (0, 0)) blc k_ hk_), (Kd.freshB (g := gb102) (o := .cells #[.int .i64 0, .int .i64 0, .slice none 0 0] 41 (0, 0)) blc k_ hk_)⟩)) (below_size (bel HB))); have n2_ := Aside0.mk (blk_below (g := gb101) (o := .cells #[.int .i64 a0_0, .int .i64 a0_1, .slice A0_2 l0_2.length c0_2] 41 (0, 0)) blc hb); have n3_ := Aside0.mk (blk_below (g := gb102) (o := .cells #[.int .i64 0, .int .i64 0, .slice none 0 0] 41 (0, 0)) blc hb); have n4_ := Aside0.mk (below_step (bel HB) hb); clear HO0_2; clear BK101; clear BK102; clear HB; have HO0_2 := n0_; have HO105 := n1_; have BK101 := n2_; have BK102 := n3_; have HB := n4_; clear n0_ n1_ n2_ n3_ n4_; (try clear hb); (try clear hb2); (try clear hk); (try clear hi); (try clear ho0); obtain ⟨Ao7, co7, eo7⟩ := Kd.V_slice HO105.out; subst eo7))
 go_loopg [10] k (fun kq v10 w' => ∃ (x10_1 : Int) (x102000_1 : Int) (x102001_1 : Int) (x102002_1 : List Int) (u102002 : Value), v10 = .int .i64 x10_1 ∧ Aside0 (impl_tray_stuckAll.l0 kq t103 (t103.length : Int) x10_1 x102000_1 x102001_1 x102002_1 = some (r1, r2, r3)) ∧ Aside0 (kq ≤ k) ∧ Aside0 (Kd.V (Kd.int .u8) 5 w' w.heap.size (fun k_ => (P0_2_ k_ ∨ w.heap.size ≤ k_) ∧ k_ ≠ gb101 ∧ k_ ≠ gb102) (.slice Ao7 t103.length co7) t103) ∧ Aside0 (Kd.V (Kd.int .u8) 5 w' w.heap.size (fun k_ => (P0_2_ k_ ∨ w.heap.size ≤ k_) ∧ k_ ≠ gb101 ∧ k_ ≠ gb102) u102002 x102002_1) ∧ Aside0 (w'.heap[gb101]? = some (.cells #[.int .i64 x102000_1, .int .i64 x102001_1, u102002] 41 (0, 0))) ∧ Aside0 (w'.heap[gb102]? = some (.cells #[.int .i64 0, .int .i64 0, (.slice none 0 0)] 41 (0, 0))) ∧ Aside0 (Below w.heap.size w w'))
 case atStart => exact ⟨(0), (a0_0), (a0_1), (l0_2), (.slice A0_2 l0_2.length c0_2), (by first | rfl | (simp; done) | (simp [*]; done)), H', ⟨Nat.le_refl _⟩, ⟨by (with_reducible repeat (first | apply Kd.V_alloc | apply Kd.V_drewN | apply Kd.V_drew)); (first | exact HO105.out | exact R_any HO105.out)⟩, ⟨by (with_reducible repeat (first | apply Kd.V_alloc | apply Kd.V_drewN | apply Kd.V_drew)); exact Kd.V_mono HO0_2.out (fun _ hk => ⟨hk.1.1, ⟨hk.1.2, hk.2⟩⟩)⟩, ⟨blc⟩, ⟨blc⟩, ⟨bel HB⟩⟩
 case round =>
  clear H'
  try clear c1
  try clear p2
  obtain ⟨x10_1, x102000_1, x102001_1, x102002_1, u102002, rfl, HA, HK1, HO_8, HO_102002, BK101, BK102, HB⟩ := hrel
  cases gk with
  | zero => exact absurd HA.out (by simp [impl_tray_stuckAll.l0])
  | succ k1 =>
   have H := HA.out;clear HA
   simp only [impl_tray_stuckAll.l0] at H
   by_cases c8 : x10_1 < (t103.length : Int)
   ·rw [if_pos c8] at H
    have c8b0 : decide (x10_1 < (t103.length : Int)) = true := decide_eq_true c8;clear c8
    by_cases c9 : 0 ≤ x10_1
    ·rw [if_pos c9] at H
     have c9b0 : decide (0 ≤ x10_1) = true := decide_eq_true c9;clear c9
     by_cases c10 : x10_1 < (t103.length : Int)
     ·rw [if_pos c10] at H
      have c10b0 : decide (x10_1 < (t103.length : Int)) = true := decide_eq_true c10;clear c10;replace H := Option.bind_eq_some_iff.mp H;obtain ⟨⟨t107, t108, t109, t112⟩, A110, H⟩ := H;replace H : (impl_tray_stuckAll.l0 k1 t103 (t103.length : Int) (wrap64 (x10_1 + 1)) t107 t108 t109) = some (r1, r2, r3) := H;have A11 := Aside0.mk A110;clear A110;have H' := Aside0.mk H;clear H;have p106 : 0 ≤ (x10_1 : Int) := of_decide_eq_true (by first | (with_reducible assumption) | assumption);have q106 : x10_1 < (t103.length : Int) := of_decide_eq_true (by first | (with_reducible assumption) | assumption);obtain ⟨ad106, e106, hx106_0⟩ := Kd.at_int (Kd.V_reads' HO_8.out).2.2 x10_1 p106 q106
      cases e106
      replace p106 := eq_true p106;replace q106 := eq_true q106;have hnb12 := NB101_102.out;have hnc12 := NB102_101.out;have hcz13_0 : wr.cell? ⟨gb101, 0, none⟩ = some (.int .i64 x102000_1) := (blk_cell BK101.out 0).trans rfl;have hcz13_1 : wr.cell? ⟨gb101, 1, none⟩ = some (.int .i64 x102001_1) := (blk_cell BK101.out 1).trans rfl;have hcz13_2 : wr.cell? ⟨gb101, 2, none⟩ = some (u102002) := (blk_cell BK101.out 2).trans rfl;have hfz13_0 := blk_frozen BK101.out 0;have hfz13_1 := blk_frozen BK101.out 1;have hfz13_2 := blk_frozen BK101.out 2;obtain ⟨Ao14, co14, eo14⟩ := Kd.V_slice HO_102002.out;subst eo14
      go_wp2_with (first | ((with_reducible refine gate_callee (f := 33) rfl ?_); refine gcall (some 17) Tryd.func33 #[.agg #[.int .i64 x102000_1, .int .i64 x102001_1, .slice Ao14 x102002_1.length co14], .int .u8 (rd t103 x10_1)] rfl ?_; (with_reducible refine (impl_tray_stuck.calls k1 x102000_1 x102001_1 (fun k_ => ((P0_2_ k_ ∨ w.heap.size ≤ k_) ∧ (k_ ≠ gb101 ∧ k_ ≠ gb102))) _ _ x102002_1 (rd t103 x10_1) t107 t108 t109 t112 _ ?side1 A11.out).mono ?_); (case side1 => (first | exact HO_102002.out | exact R_any HO_102002.out)); rintro e w15 ⟨v110, v113, rfl, ho0, ho1, hb⟩; refine ⟨_, rfl, ?_⟩; have n0_ := Aside0.mk (Kd.V_elder' (by (with_reducible repeat (first | apply Kd.V_alloc | apply Kd.V_drewN | apply Kd.V_drew)); (first | exact HO_8.out | exact R_any HO_8.out)) (Kd.R_base ho1) hb); have n1_ := Aside0.mk (Kd.V_elder' (by (with_reducible repeat (first | apply Kd.V_alloc | apply Kd.V_drewN | apply Kd.V_drew)); (first | exact HO_102002.out | exact R_any HO_102002.out)) (Kd.R_base ho1) hb); have n2_ := Aside0.mk (Kd.V_lower (Kd.V_mono (ok' := fun k_ => (P0_2_ k_ ∨ w.heap.size ≤ k_) ∧ some k_ ≠ (v113 : Value).ownBlock ∧ k_ ≠ gb101 ∧ k_ ≠ gb102) ho0 (fun k_ hk_ => ⟨Or.elim hk_.1 (fun hs_ => hs_.1) (fun hn_ => (.inr (Nat.le_trans (below_size (bel HB)) hn_))), hk_.2, Or.elim hk_.1 (fun hs_ => hs_.2.1) (fun hn_ => (Kd.freshB (g := gb101) (o := .cells #[.int .i64 x102000_1, .int .i64 x102001_1, .slice Ao14 x102002_1.length co14] 41 (0, 0)) blc k_ hn_)), Or.elim hk_.1 (fun hs_ => hs_.2.2) (fun hn_ => (Kd.freshB (g := gb102) (o := .cells #[.int .i64 0, .int .i64 0, .slice none 0 0] 41 (0, 0)) blc k_ hn_))⟩)) (below_size (bel HB))); have n3_ := Aside0.mk (Kd.R_lower (Kd.R_newM (M := fun k_ => (w.heap.size ≤ k_)) (Kd.R_mono (ok' := fun k_ => True) ho1 (fun _ hk_ => trivial)) (below_size (bel HB)) (fun k_ h_ => h_)) (below_size (bel HB))); have n4_ := Aside0.mk (blk_below (g := gb101) (o := .cells #[.int .i64 x102000_1, .int .i64 x102001_1, .slice Ao14 x102002_1.length co14] 41 (0, 0)) blc hb); have n5_ := Aside0.mk (blk_below (g := gb102) (o := .cells #[.int .i64 0, .int .i64 0, .slice none 0 0] 41 (0, 0)) blc hb); have n6_ := Aside0.mk (below_step (bel HB) hb); clear HO_8; clear HO_102002; clear BK101; clear BK102; clear HB; have HO_8 := n0_; have HO_102002 := n1_; have HO111 := n2_; have HO114 := n3_; have BK101 := n4_; have BK102 := n5_; have HB := n6_; clear n0_ n1_ n2_ n3_ n4_ n5_ n6_; (try clear hb); (try clear hb2); (try clear hk); (try clear hi); (try clear ho0); (try clear ho1); have hcz16_0 : w15.cell? ⟨gb101, 0, none⟩ = some (.int .i64 x102000_1) := (blk_cell BK101.out 0).trans rfl; have hcz16_1 : w15.cell? ⟨gb101, 1, none⟩ = some (.int .i64 x102001_1) := (blk_cell BK101.out 1).trans rfl; have hcz16_2 : w15.cell? ⟨gb101, 2, none⟩ = some (.slice Ao14 x102002_1.length co14) := (blk_cell BK101.out 2).trans rfl; have hfz16_0 := blk_frozen BK101.out 0; have hfz16_1 := blk_frozen BK101.out 1; have hfz16_2 := blk_frozen BK101.out 2; obtain ⟨Ao17, co17, eo17⟩ := Kd.V_slice HO111.out; subst eo17))
      go_roundg k1
      case measure => have := HK1.out; omega
      case rel => exact ⟨(wrap64 (x10_1 + 1)), (t107), (t108), (t109), (.slice Ao17 t109.length co17), (by first | rfl | (simp; done) | (simp [*]; done)), H', ⟨by have := HK1.out; omega⟩, ⟨by (with_reducible repeat (first | apply Kd.V_alloc | apply Kd.V_drewN | apply Kd.V_drew)); exact Kd.V_mono (Kd.V_far (p := ⟨gb101, 2, none⟩) (Kd.V_far (p := ⟨gb101, 1, none⟩) (Kd.V_far (p := ⟨gb101, 0, none⟩) (Kd.V_mono HO_8.out (fun k_ hk => (⟨hk, hk.1.2.1⟩ : _ ∧ k_ ≠ gb101))) (fun _ hk => hk.2) (.int .i64 t107)) (fun _ hk => hk.2) (.int .i64 t108)) (fun _ hk => hk.2) (.slice Ao17 t109.length co17)) (fun _ hk => ⟨hk.1.1.1, ⟨hk.1.1.2.1, hk.1.1.2.2⟩⟩)⟩, ⟨by (with_reducible repeat (first | apply Kd.V_alloc | apply Kd.V_drewN | apply Kd.V_drew)); exact Kd.V_mono (Kd.V_far (p := ⟨gb101, 2, none⟩) (Kd.V_far (p := ⟨gb101, 1, none⟩) (Kd.V_far (p := ⟨gb101, 0, none⟩) (Kd.V_mono HO111.out (fun k_ hk => (⟨hk, hk.2.2.1⟩ : _ ∧ k_ ≠ gb101))) (fun _ hk => hk.2) (.int .i64 t107)) (fun _ hk => hk.2) (.int .i64 t108)) (fun _ hk => hk.2) (.slice Ao17 t109.length co17)) (fun _ hk => ⟨hk.1.1, ⟨hk.1.2.2.1, hk.1.2.2.2⟩⟩)⟩, ⟨by (with_reducible repeat (first | refine blk_drewN ?_ _ | refine blk_drew ?_ | refine blk_alloc ?_ _)); refine blk_put (cs := #[.int .i64 t107, .int .i64 t108, .slice Ao14 x102002_1.length co14]) ?_ 2 _ rfl; (with_reducible repeat (first | refine blk_drewN ?_ _ | refine blk_drew ?_ | refine blk_alloc ?_ _)); refine blk_put (cs := #[.int .i64 t107, .int .i64 x102001_1, .slice Ao14 x102002_1.length co14]) ?_ 1 _ rfl; (with_reducible repeat (first | refine blk_drewN ?_ _ | refine blk_drew ?_ | refine blk_alloc ?_ _)); refine blk_put (cs := #[.int .i64 x102000_1, .int .i64 x102001_1, .slice Ao14 x102002_1.length co14]) ?_ 0 _ rfl; exact blc⟩, ⟨by (with_reducible repeat (first | refine blk_drewN ?_ _ | refine blk_drew ?_ | refine blk_alloc ?_ _)); refine blk_far ?_ NB102_101.out _; (with_reducible repeat (first | refine blk_drewN ?_ _ | refine blk_drew ?_ | refine blk_alloc ?_ _)); refine blk_far ?_ NB102_101.out _; (with_reducible repeat (first | refine blk_drewN ?_ _ | refine blk_drew ?_ | refine blk_alloc ?_ _)); refine blk_far ?_ NB102_101.out _; exact blc⟩, ⟨bel HB⟩⟩
     ·rw [if_neg c10] at H
      exact absurd H (by simp)
    ·rw [if_neg c9] at H
     exact absurd H (by simp)
   ·rw [if_neg c8] at H
    have c8b0 : decide (x10_1 < (t103.length : Int)) = false := decide_eq_false c8;clear c8
    simp only [Option.some.injEq, Prod.mk.injEq] at H
    obtain ⟨rfl, rfl, rfl⟩ := H;have hnb18 := NB101_102.out;have hnc18 := NB102_101.out;have hcz19_0 : wr.cell? ⟨gb101, 0, none⟩ = some (.int .i64 x102000_1) := (blk_cell BK101.out 0).trans rfl;have hcz19_1 : wr.cell? ⟨gb101, 1, none⟩ = some (.int .i64 x102001_1) := (blk_cell BK101.out 1).trans rfl;have hcz19_2 : wr.cell? ⟨gb101, 2, none⟩ = some (u102002) := (blk_cell BK101.out 2).trans rfl;have hfz19_0 := blk_frozen BK101.out 0;have hfz19_1 := blk_frozen BK101.out 1;have hfz19_2 := blk_frozen BK101.out 2;have hcz20_0 : wr.cell? ⟨gb102, 0, none⟩ = some (.int .i64 0) := (blk_cell BK102.out 0).trans rfl;have hcz20_1 : wr.cell? ⟨gb102, 1, none⟩ = some (.int .i64 0) := (blk_cell BK102.out 1).trans rfl;have hcz20_2 : wr.cell? ⟨gb102, 2, none⟩ = some (.slice none 0 0) := (blk_cell BK102.out 2).trans rfl;have hfz20_0 := blk_frozen BK102.out 0;have hfz20_1 := blk_frozen BK102.out 1;have hfz20_2 := blk_frozen BK102.out 2;obtain ⟨Ao21, co21, eo21⟩ := Kd.V_slice HO_102002.out;subst eo21
    go_wp2
    refine bodyPost_ret (results_cell_row rfl _ _ gb102 41 #[.int .i64 x102000_1, .int .i64 x102001_1, .slice Ao21 x102002_1.length co21] (0, 0) _ rfl (by (with_reducible repeat (first | refine blk_drewN ?_ _ | refine blk_drew ?_ | refine blk_alloc ?_ _)); refine blk_put (cs := #[.int .i64 x102000_1, .int .i64 x102001_1, .slice none 0 0]) ?_ 2 _ rfl; (with_reducible repeat (first | refine blk_drewN ?_ _ | refine blk_drew ?_ | refine blk_alloc ?_ _)); refine blk_put (cs := #[.int .i64 x102000_1, .int .i64 0, .slice none 0 0]) ?_ 1 _ rfl; (with_reducible repeat (first | refine blk_drewN ?_ _ | refine blk_drew ?_ | refine blk_alloc ?_ _)); refine blk_put (cs := #[.int .i64 0, .int .i64 0, .slice none 0 0]) ?_ 0 _ rfl; exact blc) Tryd.underlying41 rfl (by kernel_rfl)) rfl ?_
    exact ⟨_, by first | rfl | (simp [errW_none, errW_some] <;> rfl) | (simp [*, errW_none, errW_some] <;> rfl), by (with_reducible repeat (first | apply Kd.V_alloc | apply Kd.V_drewN | apply Kd.V_drew)); exact Kd.V_mono (Kd.V_far (p := ⟨gb102, 2, none⟩) (Kd.V_far (p := ⟨gb102, 1, none⟩) (Kd.V_far (p := ⟨gb102, 0, none⟩) (Kd.V_mono HO_102002.out (fun k_ hk => (⟨hk, hk.2.2⟩ : _ ∧ k_ ≠ gb102))) (fun _ hk => hk.2) (.int .i64 x102000_1)) (fun _ hk => hk.2) (.int .i64 x102001_1)) (fun _ hk => hk.2) (.slice Ao21 x102002_1.length co21)) (fun _ hk => hk.1.1), bel HB⟩
end Go.Proofs.YtkjlfgceodindaaDoor.Q
end
section
namespace Go.Proofs.YtkjlfgceodindaaDoor.Q
set_option linter.unusedSectionVars false
set_option linter.unusedSimpArgs false
set_option linter.unusedVariables false
open Go.RowKit Go.Proofs.YtkjlfgceodindaaDoorW.PrintWords Go.Proofs.YtkjlfgceodindaaDoorW.PrintLast Go.Proofs.YtkjlfgceodindaaDoorW.PrintMore
def oneP (k : Nat) (t : ByteArray) (x : ByteArray) : Option Bool := (impl_read.f t).bind fun g => (impl_tray_stuckAll.f k g.1 g.2.1 g.2.2 x).bind fun s => (impl_tray_pieces.f k s.1 s.2.1 s.2.2).bind fun ps => some (decide ((ps.length : Int) ≤ 1))
def outW : Option ByteArray → ByteArray × Bool
 | some x => (x, true)
 | none => (⟨#[]⟩, false)
def impl_WordToOne.f (k : Nat) (t : ByteArray) : Option (ByteArray × Bool) := (impl_IsTray.f k t).bind fun b => if b = true then (wLev (oneP k t) 6 [⟨#[]⟩]).bind fun r => some (outW r) else some (⟨#[]⟩, false)
def FinO (go gf : Nat) (x : ByteArray) (W W' : World) : Prop := ∃ W2, Below W.heap.size W W2 ∧ W' = (W2.setCell ⟨go, 0, none⟩ (.string x)).setCell ⟨gf, 0, none⟩ (.bool true)
structure BO (W : World) (gt go gf : Nat) (t : ByteArray) : Prop where
 t : W.heap[gt]? = some (.cells #[.string t] 9 (0, 0))
 o : W.heap[go]? = some (.cells #[.string ⟨#[]⟩] 9 (0, 0))
 f : W.heap[gf]? = some (.cells #[.bool false] 4 (0, 0))
theorem BO.below {W W' : World} {gt go gf : Nat} {t : ByteArray} (h : BO W gt go gf t) (hb : Below W.heap.size W W') : BO W' gt go gf t :=
 ⟨(hb.block gt (blk_lt h.t)).trans h.t, (hb.block go (blk_lt h.o)).trans h.o, (hb.block gf (blk_lt h.f)).trans h.f⟩
set_option maxHeartbeats 8000000 in
set_option maxRecDepth 100000 in
theorem one_each (k : Nat) (t : ByteArray) (gt go gf : Nat) (x : ByteArray) (b : Bool) (W : World) (hG : GoodW W) (hB : BO W gt go gf t) (h : oneP k t x = some b) :
  Calls Tryd.prog 22 (#[.string x] ++ #[.pointer (some ⟨gt, 0, none⟩), .pointer (some ⟨go, 0, none⟩), .pointer (some ⟨gf, 0, none⟩)]) W fun e W' => e = .returned (.bool (!b)) ∧ (if b = true then FinO go gf x W W' else Below W.heap.size W W') := by
 unfold oneP at h;obtain ⟨⟨gw, gh, gc⟩, hr, h⟩ := Option.bind_eq_some_iff.1 h;obtain ⟨⟨sw, sh, sc⟩, hs, h⟩ := Option.bind_eq_some_iff.1 h;obtain ⟨ps, hp, h⟩ := Option.bind_eq_some_iff.1 h;have hb := Option.some.inj h;have HG := Aside0.mk hG;have HB0 := Aside0.mk hB;have HR := Aside0.mk hr;have HS := Aside0.mk hs;have HPS := Aside0.mk hp;have x0 := (blk_cell hB.t 0).trans rfl
 show Calls Tryd.prog 22 #[.string x, .pointer (some ⟨gt, 0, none⟩), .pointer (some ⟨go, 0, none⟩), .pointer (some ⟨gf, 0, none⟩)] W _
 clear hG hB hr hs hp h
 cases b with
 | true =>
  go_enter Tryd.func22, Tryd.ntmps22
  go_wp2_with (first
   | (go_at_call 17; refine (impl_read.calls t gw gh gc _ HG.out HR.out).mono ?_; rintro e w1 ⟨v1, rfl, ho1, hb1⟩; obtain ⟨A1, c1, rfl⟩ := Kd.V_slice ho1; (have HV1 := Aside0.mk ho1); (have HB1 := Aside0.mk hb1); clear ho1 hb1 x0)
   | (go_at_call 18; refine (impl_tray_stuckAll.calls k gw gh _ A1 c1 gc x sw sh sc _ HV1.out HS.out).mono ?_; rintro e w2 ⟨v2, rfl, ho2, hb2⟩; obtain ⟨A2, c2, rfl⟩ := Kd.V_slice ho2; (have HV2 := Aside0.mk ho2); (have HB2 := Aside0.mk (below_then HB1.out HB1.out.size hb2)); clear ho2 hb2 HV1 HB1)
   | (go_at_call 19; refine (impl_tray_pieces.calls k sw sh A2 c2 sc ps _ (Kd.V_reads' HV2.out).2.2 (Kd.V_reads' HV2.out).2.1 HPS.out).mono ?_; rintro e w3 ⟨v3, rfl, ho3, hb3⟩; obtain ⟨A3, c3, rfl⟩ := Kd.S_slice ho3; (have HB3 := Aside0.mk (below_then HB2.out HB2.out.size hb3)); (have HO3 := Aside0.mk (HB0.out.below HB3.out)); (have y0 := (blk_cell HO3.out.o 0).trans rfl); (have f0 := blk_frozen HO3.out.o 0); clear ho3 hb3 HV2 HB2)
   | ((with_reducible refine gate_store (t := 9) (p := 2) rfl ?_); refine store_event (t := 9) (p := 2) (v := ?vo) (w1 := w3.setCell ⟨go, 0, none⟩ (.string x)) ?hg ?ho ?hn ?hr ?_; (case ho => rfl); (case hg => rfl); (case hn => rfl); (case hr => first | (go_simp; done) | (go_simp; rfl)); intro w4 hw4; (have HF4 := Aside0.mk (show w4.heap[gf]? = some (.cells #[.bool false] 4 (0, 0)) by rw [hw4]; exact blk_far HO3.out.f (p := ⟨go, 0, none⟩) (blk_ne HO3.out.f HO3.out.o (by decide)) _)); (have HW4 := Aside0.mk hw4); (have y1 := (blk_cell HF4.out 0).trans rfl); (have f1 := blk_frozen HF4.out 0); clear hw4 y0 f0)
   | ((with_reducible refine gate_store (t := 4) (p := 3) rfl ?_); refine store_event (t := 4) (p := 3) (v := ?vo) (w1 := w4.setCell ⟨gf, 0, none⟩ (.bool true)) ?hg ?ho ?hn ?hr ?_; (case ho => rfl); (case hg => rfl); (case hn => rfl); (case hr => first | (go_simp; done) | (go_simp; rfl)); intro w5 hw5; (have HF5 := Aside0.mk (show w5.heap[gf]? = some (.cells #[.bool true] 4 (0, 0)) by rw [hw5]; exact blk_put (cs := #[.bool false]) HF4.out 0 _ rfl)); (have HW5 := Aside0.mk hw5); (have z1 := (blk_cell HF5.out 0).trans rfl); clear hw5 y1 f1))
  go_ret
  refine ⟨rfl, ?_⟩
  exact ⟨w3, HB3.out, by rw [HW4.out]⟩
 | false =>
  go_enter Tryd.func22, Tryd.ntmps22
  go_wp2_with (first
   | (go_at_call 17; refine (impl_read.calls t gw gh gc _ HG.out HR.out).mono ?_; rintro e w1 ⟨v1, rfl, ho1, hb1⟩; obtain ⟨A1, c1, rfl⟩ := Kd.V_slice ho1; (have HV1 := Aside0.mk ho1); (have HB1 := Aside0.mk hb1); clear ho1 hb1 x0)
   | (go_at_call 18; refine (impl_tray_stuckAll.calls k gw gh _ A1 c1 gc x sw sh sc _ HV1.out HS.out).mono ?_; rintro e w2 ⟨v2, rfl, ho2, hb2⟩; obtain ⟨A2, c2, rfl⟩ := Kd.V_slice ho2; (have HV2 := Aside0.mk ho2); (have HB2 := Aside0.mk (below_then HB1.out HB1.out.size hb2)); clear ho2 hb2 HV1 HB1)
   | (go_at_call 19; refine (impl_tray_pieces.calls k sw sh A2 c2 sc ps _ (Kd.V_reads' HV2.out).2.2 (Kd.V_reads' HV2.out).2.1 HPS.out).mono ?_; rintro e w3 ⟨v3, rfl, ho3, hb3⟩; obtain ⟨A3, c3, rfl⟩ := Kd.S_slice ho3; (have HB3 := Aside0.mk (below_then HB2.out HB2.out.size hb3)); (have HO3 := Aside0.mk (HB0.out.below HB3.out)); (have y1 := (blk_cell HO3.out.f 0).trans rfl); clear ho3 hb3 HV2 HB2))
  go_ret
  exact ⟨rfl, HB3.out⟩
set_option maxHeartbeats 8000000 in
set_option maxRecDepth 100000 in
theorem impl_WordToOne.calls (k : Nat) (a0 : ByteArray) (r1 : ByteArray) (r2 : Bool) (w : World) (hG : GoodW w) (h : impl_WordToOne.f k a0 = some (r1, r2)) :
  Calls Tryd.prog 8 #[.string a0] w fun e w' => e = .returned (.tuple #[.string r1, .bool r2]) ∧ Below w.heap.size w w' := by
 unfold impl_WordToOne.f at h;obtain ⟨b, hb, h⟩ := Option.bind_eq_some_iff.1 h;have HG := Aside0.mk hG;have HT := Aside0.mk hb;clear hG hb
 cases b with
 | false =>
  rw [if_neg Bool.false_ne_true] at h
  simp only [Option.some.injEq, Prod.mk.injEq] at h
  obtain ⟨rfl, rfl⟩ := h
  go_enter Tryd.func8, Tryd.ntmps8
  go_wp2_with (first
   | ((with_reducible refine gate_dst (N := 1) rfl ?_); refine box_event ?hg (N := 1) ?hd (cs := #[.string a0]) (t := 9) ?hr ?_; (case hd => rfl); (case hg => rfl); (case hr => first | (go_simp; done) | (go_simp; rfl)); intro gt hg w1 hbox hb; (have HB1 := Aside0.mk hb); (have z0 := (blk_cell hbox 0).trans rfl); clear hbox hb hg)
   | (go_at_call 15; refine (impl_IsTray.calls k a0 false _ (GoodW.below HG.out HB1.out) HT.out).mono ?_; rintro e w2 ⟨rfl, hb2⟩; (have HB2 := Aside0.mk (below_then HB1.out HB1.out.size hb2)); clear hb2))
  go_ret2
  exact ⟨rfl, HB2.out⟩
 | true =>
  rw [if_pos rfl] at h
  obtain ⟨r, hr, h⟩ := Option.bind_eq_some_iff.1 h;have HR := Aside0.mk hr;have HO := Aside0.mk (Option.some.inj h);clear hr h;have epa : ∀ args w, (callFunc 22 args).run Tryd.prog w = .ok (.enter 22 args) w := enters_of Tryd.func22 (by kernel_rfl) rfl
  go_enter Tryd.func8, Tryd.ntmps8
  go_wp2_with (first
   | ((with_reducible refine gate_dst (N := 1) rfl ?_); refine box_event ?hg (N := 1) ?hd (cs := #[.string a0]) (t := 9) ?hr ?_; (case hd => rfl); (case hg => rfl); (case hr => first | (go_simp; done) | (go_simp; rfl)); intro gt hg w1 hbox hb; (have HB1 := Aside0.mk hb); (have HX1 := Aside0.mk hbox); (have z0 := (blk_cell hbox 0).trans rfl); (have HGT := Aside0.mk (show w.heap.size ≤ gt by rw [hg]; exact Nat.le_refl _)); clear hbox hb hg)
   | (go_at_call 15; refine (impl_IsTray.calls k a0 true _ (GoodW.below HG.out HB1.out) HT.out).mono ?_; rintro e w2 ⟨rfl, hb2⟩; (have HB2 := Aside0.mk (below_then HB1.out HB1.out.size hb2)); (have HX2 := Aside0.mk ((hb2.block gt (blk_lt HX1.out)).trans HX1.out)); clear hb2 z0 HX1 HB1)
   | ((with_reducible refine gate_dst (N := 4) rfl ?_); refine box_event ?hg (N := 4) ?hd (cs := #[.string ⟨#[]⟩]) (t := 9) ?hr ?_; (case hd => rfl); (case hg => rfl); (case hr => first | (go_simp; done) | (go_simp; rfl)); intro go hg w3 hbox hb; (have HB3 := Aside0.mk (below_then HB2.out HB2.out.size hb)); (have HX3 := Aside0.mk ((hb.block gt (blk_lt HX2.out)).trans HX2.out)); (have HY3 := Aside0.mk hbox); (have HGO := Aside0.mk (show w.heap.size ≤ go by rw [hg]; exact HB2.out.size)); (have HNE := Aside0.mk (show gt ≠ go by have := blk_lt HX2.out; omega)); clear hbox hb hg HX2 HB2)
   | ((with_reducible refine gate_dst (N := 5) rfl ?_); refine box_event ?hg (N := 5) ?hd (cs := #[.bool false]) (t := 4) ?hr ?_; (case hd => rfl); (case hg => rfl); (case hr => first | (go_simp; done) | (go_simp; rfl)); intro gf hg w4 hbox hb; (have HB4 := Aside0.mk (below_then HB3.out HB3.out.size hb)); (have HX4 := Aside0.mk ((hb.block gt (blk_lt HX3.out)).trans HX3.out)); (have HY4 := Aside0.mk ((hb.block go (blk_lt HY3.out)).trans HY3.out)); (have HZ4 := Aside0.mk hbox); (have HGF := Aside0.mk (show w.heap.size ≤ gf by rw [hg]; exact HB3.out.size)); clear hbox hb hg HX3 HY3 HB3; (have y0 := (blk_cell HY4.out 0).trans rfl); (have f0 := blk_frozen HY4.out 0))
   | ((with_reducible refine gate_store (t := 9) (p := 4) rfl ?_); refine store_event (t := 9) (p := 4) (v := ?vo) (w1 := w4.setCell ⟨go, 0, none⟩ (.string ⟨#[]⟩)) ?hg ?ho ?hn ?hr ?_; (case ho => rfl); (case hg => rfl); (case hn => rfl); (case hr => first | (go_simp; done) | (go_simp; rfl)); intro w5 hw; (have HB5 := Aside0.mk (show Below w.heap.size w w5 by rw [hw]; exact below_set HB4.out HGO.out)); (have HX5 := Aside0.mk (show w5.heap[gt]? = some (.cells #[.string a0] 9 (0, 0)) by rw [hw]; exact blk_far HX4.out (p := ⟨go, 0, none⟩) HNE.out _)); (have HY5 := Aside0.mk (show w5.heap[go]? = some (.cells #[.string ⟨#[]⟩] 9 (0, 0)) by rw [hw]; exact blk_put (cs := #[.string ⟨#[]⟩]) HY4.out 0 _ rfl)); (have HZ5 := Aside0.mk (show w5.heap[gf]? = some (.cells #[.bool false] 4 (0, 0)) by rw [hw]; exact blk_far HZ4.out (p := ⟨go, 0, none⟩) (blk_ne HZ4.out HY4.out (by decide)) _)); clear hw HB4 HX4 HY4 HZ4 y0 f0; (have y1 := (blk_cell HZ5.out 0).trans rfl); (have f1 := blk_frozen HZ5.out 0))
   | (go_at_call 21; (have HB6 := Aside0.mk (show Below w.heap.size w (w5.setCell ⟨gf, 0, none⟩ (.bool false)) from below_set HB5.out HGF.out)); (have HBO := Aside0.mk (show BO (w5.setCell ⟨gf, 0, none⟩ (.bool false)) gt go gf a0 from ⟨blk_far HX5.out (p := ⟨gf, 0, none⟩) (blk_ne HX5.out HZ5.out (by decide)) _, blk_far HY5.out (p := ⟨gf, 0, none⟩) (blk_ne HY5.out HZ5.out (by decide)) _, blk_put (cs := #[.bool false]) HZ5.out 0 _ rfl⟩)); refine (impl_words.calls 22 #[.pointer (some ⟨gt, 0, none⟩), .pointer (some ⟨go, 0, none⟩), .pointer (some ⟨gf, 0, none⟩)] epa (oneP k a0) (FinO go gf) r _ (fun W hW x b hb => one_each k a0 gt go gf x b W (GoodW.below (GoodW.below HG.out HB6.out) hW) (HBO.out.below hW) hb) HR.out).mono ?_; rintro e w7 ⟨rfl, hend⟩))
  have H6 : Below w.heap.size w (w5.setCell ⟨gf, 0, none⟩ (.bool false)) := below_set HB5.out HGF.out
  cases r with
  | none =>
   have hO := HO.out
   simp only [outW, Prod.mk.injEq] at hO
   obtain ⟨rfl, rfl⟩ := hO;have HB6 := below_then H6 H6.size (show Below _ _ w7 from hend);have HBO : BO w7 gt go gf a0 := BO.below ⟨blk_far HX5.out (p := ⟨gf, 0, none⟩) (blk_ne HX5.out HZ5.out (by decide)) _, blk_far HY5.out (p := ⟨gf, 0, none⟩) (blk_ne HY5.out HZ5.out (by decide)) _, blk_put (cs := #[.bool false]) HZ5.out 0 _ rfl⟩ (show Below _ _ w7 from hend);have HB7 := Aside0.mk HB6;have x1 := (blk_cell HBO.o 0).trans rfl;have x2 := (blk_cell HBO.f 0).trans rfl;clear hend HB6 HBO
   go_quiet (fail)
   go_wp2
   go_ret2
   exact ⟨rfl, pw_below_drewN HB7.out _⟩
  | some x =>
   have hO := HO.out
   simp only [outW, Prod.mk.injEq] at hO
   obtain ⟨rfl, rfl⟩ := hO;obtain ⟨W, hW, W2, hW2, hw7⟩ := hend;have HBx := below_then (below_then H6 H6.size hW) (below_then H6 H6.size hW).size hW2;have HBO : BO W2 gt go gf a0 := BO.below (BO.below ⟨blk_far HX5.out (p := ⟨gf, 0, none⟩) (blk_ne HX5.out HZ5.out (by decide)) _, blk_far HY5.out (p := ⟨gf, 0, none⟩) (blk_ne HY5.out HZ5.out (by decide)) _, blk_put (cs := #[.bool false]) HZ5.out 0 _ rfl⟩ hW) hW2;have HB7 := Aside0.mk (show Below w.heap.size w w7 by rw [hw7]; exact below_set (below_set HBx HGO.out) HGF.out)
   have ho : w7.heap[go]? = some (.cells #[.string x] 9 (0, 0)) := by
    rw [hw7]
    exact blk_far (blk_put (cs := #[.string ⟨#[]⟩]) HBO.o 0 _ rfl) (p := ⟨gf, 0, none⟩) (blk_ne HBO.o HBO.f (by decide)) _
   have hf : w7.heap[gf]? = some (.cells #[.bool true] 4 (0, 0)) := by
    rw [hw7]
    exact blk_put (cs := #[.bool false]) (blk_far HBO.f (p := ⟨go, 0, none⟩) (blk_ne HBO.f HBO.o (by decide)) _) 0 _ rfl
   have x1 := (blk_cell ho 0).trans rfl;have x2 := (blk_cell hf 0).trans rfl;clear HBx HBO hW hW2 hw7 ho hf
   go_quiet (fail)
   go_wp2
   go_ret2
   exact ⟨rfl, pw_below_drewN HB7.out _⟩
end Go.Proofs.YtkjlfgceodindaaDoor.Q
end
section
namespace Go.Proofs.YtkjlfgceodindaaDoor.Q
open Go.RowKit Go.Proofs.YtkjlfgceodindaaDoorW.PrintWords Go.Proofs.YtkjlfgceodindaaDoorW.PrintLast Go.Proofs.YtkjlfgceodindaaDoorW.PrintMore
attribute [local go_sem] max2_int min2_int max_two min_two max_three min_three max_four min_four
set_option linter.unusedVariables false
set_option linter.unusedSimpArgs false
def spec_WordToOne.l0 : Nat → List ByteArray → Int → Int → List ByteArray → List ByteArray → Option (ByteArray × Bool)
 | 0, _, _, _, _, _ => none
 | k + 1, x23, x24, x25, x115000, x115001 => if x25 < x24 then (if 0 ≤ x25 then (if x25 < (x23.length : Int) then ((spec_tyRead.f k (rdOf ByteArray.empty x23 x25)).bind fun bt116 => ((spec_skPieces.f k bt116.1 bt116.2.1 bt116.2.2.1).bind fun bt123 => (if bt123.2 ≤ 1 then (if x25 < (x115001.length : Int) then (some (rdOf ByteArray.empty x115001 x25, true)) else (none)) else (spec_WordToOne.l0 k x23 x24 (wrap64 (x25 + 1)) x115000 x115001)))) else (none)) else (none)) else (some ((⟨#[]⟩ : ByteArray), false))
def spec_WordToOne.f (k : Nat) (a0 : ByteArray) : Option (ByteArray × Bool) := (spec_tyRead.f k a0).bind fun bt101 => (if bt101.2.2.2 = true then ((spec_skSearch.f k bt101.1 bt101.2.1 bt101.2.2.1 5).bind fun bt108 => (spec_WordToOne.l0 k bt108.1 (bt108.1.length : Int) 0 bt108.1 bt108.2)) else (some ((⟨#[]⟩ : ByteArray), false)))
set_option maxHeartbeats 8000000 in
set_option maxRecDepth 100000 in
theorem spec_WordToOne.calls (k : Nat) (a0 : ByteArray) (r1 : ByteArray) (r2 : Bool) (w : World) (h : spec_WordToOne.f k a0 = some (r1, r2)) :
  Calls Tryd.prog 7 #[.string a0] w fun e w' => e = .returned (.tuple #[.string r1, .bool r2]) ∧ Below w.heap.size w w' := by
 have hu30 := Tryd.underlying30;have hu46 := Tryd.underlying46;have HB := Aside0.mk (Below.refl w.heap.size w);have H : ((spec_tyRead.f k a0).bind fun bt101 => (if bt101.2.2.2 = true then ((spec_skSearch.f k bt101.1 bt101.2.1 bt101.2.2.1 5).bind fun bt108 => (spec_WordToOne.l0 k bt108.1 (bt108.1.length : Int) 0 bt108.1 bt108.2)) else (some ((⟨#[]⟩ : ByteArray), false)))) = some (r1, r2) := h;clear h;replace H := Option.bind_eq_some_iff.mp H;obtain ⟨⟨t101, t102, t103, t106⟩, A20, H⟩ := H;replace H : (if t106 = true then ((spec_skSearch.f k t101 t102 t103 5).bind fun bt108 => (spec_WordToOne.l0 k bt108.1 (bt108.1.length : Int) 0 bt108.1 bt108.2)) else (some ((⟨#[]⟩ : ByteArray), false))) = some (r1, r2) := H;have A2 := Aside0.mk A20;clear A20
 by_cases c3 : t106 = true
 ·subst c3
  have H1 : ((spec_skSearch.f k t101 t102 t103 5).bind fun bt108 => (spec_WordToOne.l0 k bt108.1 (bt108.1.length : Int) 0 bt108.1 bt108.2)) = some (r1, r2) := by rw [if_pos rfl] at H; exact H
  clear H;have H := H1;clear H1;replace H := Option.bind_eq_some_iff.mp H;obtain ⟨⟨t108, t111⟩, A40, H⟩ := H;replace H : (spec_WordToOne.l0 k t108 (t108.length : Int) 0 t108 t111) = some (r1, r2) := H;have A4 := Aside0.mk A40;clear A40;have H' := Aside0.mk H;clear H
  go_enter Tryd.func7, Tryd.ntmps7
  go_wp2_with (first | ((with_reducible refine gate_callee (f := 9) rfl ?_); refine gcall (some 15) Tryd.func9 #[.string a0] rfl ?_; (with_reducible refine (spec_tyRead.calls k a0 t101 t102 t103 true _ A2.out).mono ?_); rintro e w5 ⟨v104, rfl, ho0, hb⟩; refine ⟨_, rfl, ?_⟩; have n0_ := Aside0.mk (Kd.R_lower ho0 (below_size (bel HB))); have n1_ := Aside0.mk (below_step (bel HB) hb); clear HB; have HO105 := n0_; have HB := n1_; clear n0_ n1_; (try clear hb); (try clear hb2); (try clear hk); (try clear hi); (try clear ho0)) | ((with_reducible refine gate_dst (N := 4) rfl ?_); refine boxE (N := 4) (cs := #[.int .i64 0, .int .i64 0, .slice none 0 0]) (t := 30) ?_; intro gb107 hg w6 hbox hb; have n0_ := Aside0.mk (Kd.R_below (rch HO105) hb); have n1_ := Aside0.mk (below_step (bel HB) hb); have n2_ := Aside0.mk (hbox); have n3_ := Aside0.mk (gsz hg (bel HB)); have n4_ := Aside0.mk (gsz hg (bel HB)); clear HO105; clear HB; have HO105 := n0_; have HB := n1_; have BK107 := n2_; have GW107 := n3_; have GE107 := n4_; clear n0_ n1_ n2_ n3_ n4_; clear hb hbox hg; have hcz7_0 : w6.cell? ⟨gb107, 0, none⟩ = some (.int .i64 0) := (blk_cell BK107.out 0).trans rfl; have hcz7_1 : w6.cell? ⟨gb107, 1, none⟩ = some (.int .i64 0) := (blk_cell BK107.out 1).trans rfl; have hcz7_2 : w6.cell? ⟨gb107, 2, none⟩ = some (.slice none 0 0) := (blk_cell BK107.out 2).trans rfl; have hfz7_0 := blk_frozen BK107.out 0; have hfz7_1 := blk_frozen BK107.out 1; have hfz7_2 := blk_frozen BK107.out 2; obtain ⟨Ao8, co8, eo8⟩ := Kd.R_slice HO105.out; subst eo8) | ((with_reducible refine gate_callee (f := 20) rfl ?_); refine gcall (some 21) Tryd.func20 #[.agg #[.int .i64 t101, .int .i64 t102, .slice Ao8 t103.length co8], .int .i64 5] rfl ?_; (with_reducible refine (spec_skSearch.calls k t101 t102 _ _ t103 5 t108 t111 _ ?side1 ?side2 A4.out).mono ?_); (case side1 => refine (Kd.R_reads' (e := 5) (base := w.heap.size) (ok := fun k_ => True) (n := t103.length) (c := co8) ?_).2.2; exact (by (with_reducible repeat (first | apply Kd.R_alloc | apply Kd.R_drewN | apply Kd.R_drew)); exact (Kd.R_mono (Kd.R_far (p := ⟨gb107, 2, none⟩) (Kd.R_far (p := ⟨gb107, 1, none⟩) (Kd.R_far (p := ⟨gb107, 0, none⟩) (Kd.R_types HO105.out BK107.out (by decide)) (fun _ hk => hk.2) (.int .i64 t101)) (fun _ hk => hk.2) (.int .i64 t102)) (fun _ hk => hk.2) (.slice Ao8 t103.length co8)) (fun _ h_ => h_.1)))); (case side2 => exact (Kd.R_reads' HO105.out).2.1); rintro e w9 ⟨v109, v112, rfl, ho0, ho1, hb⟩; refine ⟨_, rfl, ?_⟩; have n0_ := Aside0.mk (Kd.R_below (by (with_reducible repeat (first | apply Kd.R_alloc | apply Kd.R_drewN | apply Kd.R_drew)); exact (Kd.R_mono (Kd.R_far (p := ⟨gb107, 2, none⟩) (Kd.R_far (p := ⟨gb107, 1, none⟩) (Kd.R_far (p := ⟨gb107, 0, none⟩) (Kd.R_types HO105.out BK107.out (by decide)) (fun _ hk => hk.2) (.int .i64 t101)) (fun _ hk => hk.2) (.int .i64 t102)) (fun _ hk => hk.2) (.slice Ao8 t103.length co8)) (fun _ h_ => h_.1))) hb); have n1_ := Aside0.mk (Kd.R_lower ho0 (below_size (bel HB))); have n2_ := Aside0.mk (Kd.R_lower ho1 (below_size (bel HB))); have n3_ := Aside0.mk (blk_below (g := gb107) (o := .cells #[.int .i64 t101, .int .i64 t102, .slice Ao8 t103.length co8] 30 (0, 0)) (by (with_reducible repeat (first | refine blk_drewN ?_ _ | refine blk_drew ?_ | refine blk_alloc ?_ _)); refine blk_put (cs := #[.int .i64 t101, .int .i64 t102, .slice none 0 0]) ?_ 2 _ rfl; (with_reducible repeat (first | refine blk_drewN ?_ _ | refine blk_drew ?_ | refine blk_alloc ?_ _)); refine blk_put (cs := #[.int .i64 t101, .int .i64 0, .slice none 0 0]) ?_ 1 _ rfl; (with_reducible repeat (first | refine blk_drewN ?_ _ | refine blk_drew ?_ | refine blk_alloc ?_ _)); refine blk_put (cs := #[.int .i64 0, .int .i64 0, .slice none 0 0]) ?_ 0 _ rfl; exact blc) hb); have n4_ := Aside0.mk (below_step (bel HB) hb); clear HO105; clear BK107; clear HB; have HO105 := n0_; have HO110 := n1_; have HO113 := n2_; have BK107 := n3_; have HB := n4_; clear n0_ n1_ n2_ n3_ n4_; (try clear hb); (try clear hb2); (try clear hk); (try clear hi); (try clear ho0); (try clear ho1)) | ((with_reducible refine gate_dst (N := 6) rfl ?_); refine boxE (N := 6) (cs := #[.slice none 0 0, .slice none 0 0]) (t := 46) ?_; intro gb114 hg w10 hbox hb; have n0_ := Aside0.mk (Kd.R_below (rch HO105) hb); have n1_ := Aside0.mk (Kd.R_below (rch HO110) hb); have n2_ := Aside0.mk (Kd.R_below (rch HO113) hb); have n3_ := Aside0.mk (blk_below (g := gb107) (o := .cells #[.int .i64 t101, .int .i64 t102, .slice Ao8 t103.length co8] 30 (0, 0)) blc hb); have n4_ := Aside0.mk (below_step (bel HB) hb); have n5_ := Aside0.mk (hbox); have n6_ := Aside0.mk (gsz hg (bel HB)); have n7_ := Aside0.mk (gsz hg (bel HB)); have n8_ := Aside0.mk ((by rw [hg]; exact Nat.ne_of_lt (blk_lt (g := gb107) (o := .cells #[.int .i64 t101, .int .i64 t102, .slice Ao8 t103.length co8] 30 (0, 0)) blc) : gb107 ≠ gb114)); have n9_ := Aside0.mk ((by rw [hg]; exact Nat.ne_of_gt (blk_lt (g := gb107) (o := .cells #[.int .i64 t101, .int .i64 t102, .slice Ao8 t103.length co8] 30 (0, 0)) blc) : gb114 ≠ gb107)); clear HO105; clear HO110; clear HO113; clear BK107; clear HB; have HO105 := n0_; have HO110 := n1_; have HO113 := n2_; have BK107 := n3_; have HB := n4_; have BK114 := n5_; have GW114 := n6_; have GE114 := n7_; have NB107_114 := n8_; have NB114_107 := n9_; clear n0_ n1_ n2_ n3_ n4_ n5_ n6_ n7_ n8_ n9_; clear hb hbox hg; obtain ⟨Ao11, co11, eo11⟩ := Kd.R_slice HO110.out; subst eo11; have hnb12 := NB114_107.out; have hnc12 := NB107_114.out; have hcz13_0 : w10.cell? ⟨gb114, 0, none⟩ = some (.slice none 0 0) := (blk_cell BK114.out 0).trans rfl; have hcz13_1 : w10.cell? ⟨gb114, 1, none⟩ = some (.slice none 0 0) := (blk_cell BK114.out 1).trans rfl; have hfz13_0 := blk_frozen BK114.out 0; have hfz13_1 := blk_frozen BK114.out 1; obtain ⟨Ao14, co14, eo14⟩ := Kd.R_slice HO113.out; subst eo14))
  go_loopg [25] k (fun kq v25 w' => ∃ (x25_1 : Int), v25 = .int .i64 x25_1 ∧ Aside0 (spec_WordToOne.l0 kq t108 (t108.length : Int) x25_1 t108 t111 = some (r1, r2)) ∧ Aside0 (kq ≤ k) ∧ Aside0 (Kd.R Kd.string 9 w' w.heap.size (fun k_ => some k_ ≠ ((.slice Ao14 t111.length co14) : Value).ownBlock) (.slice Ao11 t108.length co11) t108) ∧ Aside0 (Kd.R (Kd.int .u8) 5 w' w.heap.size (fun _ => True) (.slice Ao8 t103.length co8) t103) ∧ Aside0 (Kd.R Kd.string 9 w' w.heap.size (fun k_ => some k_ ≠ ((.slice Ao14 t111.length co14) : Value).ownBlock) (.slice Ao11 t108.length co11) t108) ∧ Aside0 (Kd.R Kd.string 9 w' w.heap.size (fun k_ => some k_ ≠ ((.slice Ao11 t108.length co11) : Value).ownBlock ∧ some k_ ≠ ((.slice Ao11 t108.length co11) : Value).ownBlock) (.slice Ao14 t111.length co14) t111) ∧ Aside0 (w'.heap[gb107]? = some (.cells #[.int .i64 t101, .int .i64 t102, (.slice Ao8 t103.length co8)] 30 (0, 0))) ∧ Aside0 (w'.heap[gb114]? = some (.cells #[(.slice Ao11 t108.length co11), (.slice Ao14 t111.length co14)] 46 (0, 0))) ∧ Aside0 (Below w.heap.size w w'))
  case atStart => exact ⟨(0), (by first | rfl | (simp; done) | (simp [*]; done)), H', ⟨Nat.le_refl _⟩, ⟨by (with_reducible repeat (first | apply Kd.R_alloc | apply Kd.R_drewN | apply Kd.R_drew)); exact Kd.R_mono (Kd.R_far (p := ⟨gb114, 1, none⟩) (Kd.R_far (p := ⟨gb114, 0, none⟩) (Kd.R_types HO110.out BK114.out (by decide)) (fun _ hk => hk.2) (.slice Ao11 t108.length co11)) (fun _ hk => hk.2) (.slice Ao14 t111.length co14)) (fun _ hk => hk.1)⟩, ⟨by (with_reducible repeat (first | apply Kd.R_alloc | apply Kd.R_drewN | apply Kd.R_drew)); exact Kd.R_mono (Kd.R_far (p := ⟨gb114, 1, none⟩) (Kd.R_far (p := ⟨gb114, 0, none⟩) (Kd.R_types HO105.out BK114.out (by decide)) (fun _ hk => hk.2) (.slice Ao11 t108.length co11)) (fun _ hk => hk.2) (.slice Ao14 t111.length co14)) (fun _ hk => trivial)⟩, ⟨by (with_reducible repeat (first | apply Kd.R_alloc | apply Kd.R_drewN | apply Kd.R_drew)); exact Kd.R_mono (Kd.R_far (p := ⟨gb114, 1, none⟩) (Kd.R_far (p := ⟨gb114, 0, none⟩) (Kd.R_types HO110.out BK114.out (by decide)) (fun _ hk => hk.2) (.slice Ao11 t108.length co11)) (fun _ hk => hk.2) (.slice Ao14 t111.length co14)) (fun _ hk => hk.1)⟩, ⟨by (with_reducible repeat (first | apply Kd.R_alloc | apply Kd.R_drewN | apply Kd.R_drew)); exact Kd.R_mono (Kd.R_far (p := ⟨gb114, 1, none⟩) (Kd.R_far (p := ⟨gb114, 0, none⟩) (Kd.R_types HO113.out BK114.out (by decide)) (fun _ hk => hk.2) (.slice Ao11 t108.length co11)) (fun _ hk => hk.2) (.slice Ao14 t111.length co14)) (fun _ hk => ⟨hk.1, hk.1⟩)⟩, ⟨by (with_reducible repeat (first | refine blk_drewN ?_ _ | refine blk_drew ?_ | refine blk_alloc ?_ _)); refine blk_far ?_ NB107_114.out _; (with_reducible repeat (first | refine blk_drewN ?_ _ | refine blk_drew ?_ | refine blk_alloc ?_ _)); refine blk_far ?_ NB107_114.out _; exact blc⟩, ⟨by (with_reducible repeat (first | refine blk_drewN ?_ _ | refine blk_drew ?_ | refine blk_alloc ?_ _)); refine blk_put (cs := #[.slice Ao11 t108.length co11, .slice none 0 0]) ?_ 1 _ rfl; (with_reducible repeat (first | refine blk_drewN ?_ _ | refine blk_drew ?_ | refine blk_alloc ?_ _)); refine blk_put (cs := #[.slice none 0 0, .slice none 0 0]) ?_ 0 _ rfl; exact blc⟩, ⟨bel HB⟩⟩
  case round =>
   clear H'
   try clear c1
   try clear c2
   try clear p2
   try clear c3
   try clear c7
   try clear c9
   try clear c12
   try clear hcz13_0
   try clear hcz13_1
   try clear hcz7_0
   try clear hcz7_1
   try clear hcz7_2
   try clear hfz13_0
   try clear hfz13_1
   try clear hfz7_0
   try clear hfz7_1
   try clear hfz7_2
   obtain ⟨x25_1, rfl, HA, HK1, HO_23, HO_108002, HO_115000, HO_115001, BK107, BK114, HB⟩ := hrel
   cases gk with
   | zero => exact absurd HA.out (by simp [spec_WordToOne.l0])
   | succ k1 =>
    have H := HA.out;clear HA
    simp only [spec_WordToOne.l0] at H
    by_cases c15 : x25_1 < (t108.length : Int)
    ·rw [if_pos c15] at H
     have c15b0 : decide (x25_1 < (t108.length : Int)) = true := decide_eq_true c15;clear c15
     by_cases c16 : 0 ≤ x25_1
     ·rw [if_pos c16] at H
      have c16b0 : decide (0 ≤ x25_1) = true := decide_eq_true c16;clear c16
      by_cases c17 : x25_1 < (t108.length : Int)
      ·rw [if_pos c17] at H
       have c17b0 : decide (x25_1 < (t108.length : Int)) = true := decide_eq_true c17;clear c17;replace H := Option.bind_eq_some_iff.mp H;obtain ⟨⟨t116, t117, t118, t121⟩, A180, H⟩ := H;replace H : ((spec_skPieces.f k1 t116 t117 t118).bind fun bt123 => (if bt123.2 ≤ 1 then (if x25_1 < (t111.length : Int) then (some (rdOf ByteArray.empty t111 x25_1, true)) else (none)) else (spec_WordToOne.l0 k1 t108 (t108.length : Int) (wrap64 (x25_1 + 1)) t108 t111))) = some (r1, r2) := H;have A18 := Aside0.mk A180;clear A180;replace H := Option.bind_eq_some_iff.mp H;obtain ⟨⟨t123, t126⟩, A190, H⟩ := H;replace H : (if t126 ≤ 1 then (if x25_1 < (t111.length : Int) then (some (rdOf ByteArray.empty t111 x25_1, true)) else (none)) else (spec_WordToOne.l0 k1 t108 (t108.length : Int) (wrap64 (x25_1 + 1)) t108 t111)) = some (r1, r2) := H;have A19 := Aside0.mk A190;clear A190
       by_cases c20 : t126 ≤ 1
       ·rw [if_pos c20] at H
        have c20b0 : decide (t126 ≤ 1) = true := decide_eq_true c20;clear c20
        by_cases c21 : x25_1 < (t111.length : Int)
        ·rw [if_pos c21] at H
         have c21b0 : decide (x25_1 < (t111.length : Int)) = true := decide_eq_true c21;clear c21
         simp only [Option.some.injEq, Prod.mk.injEq] at H
         obtain ⟨rfl, rfl⟩ := H;have p115 : 0 ≤ (x25_1 : Int) := of_decide_eq_true (by first | (with_reducible assumption) | assumption);have q115 : x25_1 < (t108.length : Int) := of_decide_eq_true (by first | (with_reducible assumption) | assumption);obtain ⟨ad115, e115, hx115_0⟩ := Kd.at_string (Kd.R_reads' HO_23.out).2.2 x25_1 p115 q115
         cases e115
         replace p115 := eq_true p115;replace q115 := eq_true q115
         go_wp2_with (first | ((with_reducible refine gate_callee (f := 9) rfl ?_); refine gcall (some 32) Tryd.func9 #[.string (rdOf ByteArray.empty t108 x25_1)] rfl ?_; (with_reducible refine (spec_tyRead.calls k1 (rdOf ByteArray.empty t108 x25_1) t116 t117 t118 t121 _ A18.out).mono ?_); rintro e w22 ⟨v119, rfl, ho0, hb⟩; refine ⟨_, rfl, ?_⟩; have n0_ := Aside0.mk (Kd.R_below (rch HO_23) hb); have n1_ := Aside0.mk (Kd.R_elder' (rch HO_108002) (Kd.R_base ho0) hb); have n2_ := Aside0.mk (Kd.R_below (rch HO_115000) hb); have n3_ := Aside0.mk (Kd.R_below (rch HO_115001) hb); have n4_ := Aside0.mk (Kd.R_lower (Kd.R_new' ho0 (Kd.R_lt (rch HO_108002))) (below_size (bel HB))); have n5_ := Aside0.mk (blk_below (g := gb107) (o := .cells #[.int .i64 t101, .int .i64 t102, .slice Ao8 t103.length co8] 30 (0, 0)) blc hb); have n6_ := Aside0.mk (blk_below (g := gb114) (o := .cells #[.slice (some ad115) t108.length co11, .slice Ao14 t111.length co14] 46 (0, 0)) blc hb); have n7_ := Aside0.mk (below_step (bel HB) hb); clear HO_23; clear HO_108002; clear HO_115000; clear HO_115001; clear BK107; clear BK114; clear HB; have HO_23 := n0_; have HO_108002 := n1_; have HO_115000 := n2_; have HO_115001 := n3_; have HO120 := n4_; have BK107 := n5_; have BK114 := n6_; have HB := n7_; clear n0_ n1_ n2_ n3_ n4_ n5_ n6_ n7_; (try clear hb); (try clear hb2); (try clear hk); (try clear hi); (try clear ho0)) | ((with_reducible refine gate_dst (N := 9) rfl ?_); refine boxE (N := 9) (cs := #[.int .i64 0, .int .i64 0, .slice none 0 0]) (t := 30) ?_; intro gb122 hg w23 hbox hb; have n0_ := Aside0.mk (Kd.R_below (rch HO_23) hb); have n1_ := Aside0.mk (Kd.R_below (rch HO_108002) hb); have n2_ := Aside0.mk (Kd.R_below (rch HO_115000) hb); have n3_ := Aside0.mk (Kd.R_below (rch HO_115001) hb); have n4_ := Aside0.mk (Kd.R_below (rch HO120) hb); have n5_ := Aside0.mk (blk_below (g := gb107) (o := .cells #[.int .i64 t101, .int .i64 t102, .slice Ao8 t103.length co8] 30 (0, 0)) blc hb); have n6_ := Aside0.mk (blk_below (g := gb114) (o := .cells #[.slice (some ad115) t108.length co11, .slice Ao14 t111.length co14] 46 (0, 0)) blc hb); have n7_ := Aside0.mk (below_step (bel HB) hb); have n8_ := Aside0.mk (hbox); have n9_ := Aside0.mk (gsz hg (bel HB)); have n10_ := Aside0.mk (gsz hg (bel HB)); have n11_ := Aside0.mk ((by rw [hg]; exact Nat.ne_of_lt (blk_lt (g := gb107) (o := .cells #[.int .i64 t101, .int .i64 t102, .slice Ao8 t103.length co8] 30 (0, 0)) blc) : gb107 ≠ gb122)); have n12_ := Aside0.mk ((by rw [hg]; exact Nat.ne_of_gt (blk_lt (g := gb107) (o := .cells #[.int .i64 t101, .int .i64 t102, .slice Ao8 t103.length co8] 30 (0, 0)) blc) : gb122 ≠ gb107)); have n13_ := Aside0.mk ((by rw [hg]; exact Nat.ne_of_lt (blk_lt (g := gb114) (o := .cells #[.slice (some ad115) t108.length co11, .slice Ao14 t111.length co14] 46 (0, 0)) blc) : gb114 ≠ gb122)); have n14_ := Aside0.mk ((by rw [hg]; exact Nat.ne_of_gt (blk_lt (g := gb114) (o := .cells #[.slice (some ad115) t108.length co11, .slice Ao14 t111.length co14] 46 (0, 0)) blc) : gb122 ≠ gb114)); clear HO_23; clear HO_108002; clear HO_115000; clear HO_115001; clear HO120; clear BK107; clear BK114; clear HB; have HO_23 := n0_; have HO_108002 := n1_; have HO_115000 := n2_; have HO_115001 := n3_; have HO120 := n4_; have BK107 := n5_; have BK114 := n6_; have HB := n7_; have BK122 := n8_; have GW122 := n9_; have GE122 := n10_; have NB107_122 := n11_; have NB122_107 := n12_; have NB114_122 := n13_; have NB122_114 := n14_; clear n0_ n1_ n2_ n3_ n4_ n5_ n6_ n7_ n8_ n9_ n10_ n11_ n12_ n13_ n14_; clear hb hbox hg; have hnb24 := NB122_107.out; have hnc24 := NB107_122.out; have hnb25 := NB122_114.out; have hnc25 := NB114_122.out; have hcz26_0 : w23.cell? ⟨gb122, 0, none⟩ = some (.int .i64 0) := (blk_cell BK122.out 0).trans rfl; have hcz26_1 : w23.cell? ⟨gb122, 1, none⟩ = some (.int .i64 0) := (blk_cell BK122.out 1).trans rfl; have hcz26_2 : w23.cell? ⟨gb122, 2, none⟩ = some (.slice none 0 0) := (blk_cell BK122.out 2).trans rfl; have hfz26_0 := blk_frozen BK122.out 0; have hfz26_1 := blk_frozen BK122.out 1; have hfz26_2 := blk_frozen BK122.out 2; obtain ⟨Ao27, co27, eo27⟩ := Kd.R_slice HO120.out; subst eo27) | ((with_reducible refine gate_callee (f := 11) rfl ?_); refine gcall (some 37) Tryd.func11 #[.agg #[.int .i64 t116, .int .i64 t117, .slice Ao27 t118.length co27]] rfl ?_; (with_reducible refine (spec_skPieces.calls k1 t116 t117 _ _ t118 t123 t126 _ ?side1 ?side2 A19.out).mono ?_); (case side1 => refine (Kd.R_reads' (e := 5) (base := w.heap.size) (ok := fun k_ => (True ∧ some k_ ≠ (.slice Ao8 t103.length co8 : Value).ownBlock)) (n := t118.length) (c := co27) ?_).2.2; exact (by (with_reducible repeat (first | apply Kd.R_alloc | apply Kd.R_drewN | apply Kd.R_drew)); exact (Kd.R_mono (Kd.R_far (p := ⟨gb122, 2, none⟩) (Kd.R_far (p := ⟨gb122, 1, none⟩) (Kd.R_far (p := ⟨gb122, 0, none⟩) (Kd.R_types HO120.out BK122.out (by decide)) (fun _ hk => hk.2) (.int .i64 t116)) (fun _ hk => hk.2) (.int .i64 t117)) (fun _ hk => hk.2) (.slice Ao27 t118.length co27)) (fun _ h_ => h_.1)))); (case side2 => exact (Kd.R_reads' HO120.out).2.1); rintro e w28 ⟨v124, rfl, ho0, hb⟩; refine ⟨_, rfl, ?_⟩; have n0_ := Aside0.mk (Kd.R_below (by (with_reducible repeat (first | apply Kd.R_alloc | apply Kd.R_drewN | apply Kd.R_drew)); exact (Kd.R_mono (Kd.R_far (p := ⟨gb122, 2, none⟩) (Kd.R_far (p := ⟨gb122, 1, none⟩) (Kd.R_far (p := ⟨gb122, 0, none⟩) (Kd.R_types HO_23.out BK122.out (by decide)) (fun _ hk => hk.2) (.int .i64 t116)) (fun _ hk => hk.2) (.int .i64 t117)) (fun _ hk => hk.2) (.slice Ao27 t118.length co27)) (fun _ h_ => h_.1))) hb); have n1_ := Aside0.mk (Kd.R_below (by (with_reducible repeat (first | apply Kd.R_alloc | apply Kd.R_drewN | apply Kd.R_drew)); exact (Kd.R_mono (Kd.R_far (p := ⟨gb122, 2, none⟩) (Kd.R_far (p := ⟨gb122, 1, none⟩) (Kd.R_far (p := ⟨gb122, 0, none⟩) (Kd.R_types HO_108002.out BK122.out (by decide)) (fun _ hk => hk.2) (.int .i64 t116)) (fun _ hk => hk.2) (.int .i64 t117)) (fun _ hk => hk.2) (.slice Ao27 t118.length co27)) (fun _ h_ => h_.1))) hb); have n2_ := Aside0.mk (Kd.R_below (by (with_reducible repeat (first | apply Kd.R_alloc | apply Kd.R_drewN | apply Kd.R_drew)); exact (Kd.R_mono (Kd.R_far (p := ⟨gb122, 2, none⟩) (Kd.R_far (p := ⟨gb122, 1, none⟩) (Kd.R_far (p := ⟨gb122, 0, none⟩) (Kd.R_types HO_115000.out BK122.out (by decide)) (fun _ hk => hk.2) (.int .i64 t116)) (fun _ hk => hk.2) (.int .i64 t117)) (fun _ hk => hk.2) (.slice Ao27 t118.length co27)) (fun _ h_ => h_.1))) hb); have n3_ := Aside0.mk (Kd.R_below (by (with_reducible repeat (first | apply Kd.R_alloc | apply Kd.R_drewN | apply Kd.R_drew)); exact (Kd.R_mono (Kd.R_far (p := ⟨gb122, 2, none⟩) (Kd.R_far (p := ⟨gb122, 1, none⟩) (Kd.R_far (p := ⟨gb122, 0, none⟩) (Kd.R_types HO_115001.out BK122.out (by decide)) (fun _ hk => hk.2) (.int .i64 t116)) (fun _ hk => hk.2) (.int .i64 t117)) (fun _ hk => hk.2) (.slice Ao27 t118.length co27)) (fun _ h_ => h_.1))) hb); have n4_ := Aside0.mk (Kd.R_below (by (with_reducible repeat (first | apply Kd.R_alloc | apply Kd.R_drewN | apply Kd.R_drew)); exact (Kd.R_mono (Kd.R_far (p := ⟨gb122, 2, none⟩) (Kd.R_far (p := ⟨gb122, 1, none⟩) (Kd.R_far (p := ⟨gb122, 0, none⟩) (Kd.R_types HO120.out BK122.out (by decide)) (fun _ hk => hk.2) (.int .i64 t116)) (fun _ hk => hk.2) (.int .i64 t117)) (fun _ hk => hk.2) (.slice Ao27 t118.length co27)) (fun _ h_ => h_.1))) hb); have n5_ := Aside0.mk (Kd.R_lower ho0 (below_size (bel HB))); have n6_ := Aside0.mk (blk_below (g := gb107) (o := .cells #[.int .i64 t101, .int .i64 t102, .slice Ao8 t103.length co8] 30 (0, 0)) (by (with_reducible repeat (first | refine blk_drewN ?_ _ | refine blk_drew ?_ | refine blk_alloc ?_ _)); refine blk_far ?_ NB107_122.out _; (with_reducible repeat (first | refine blk_drewN ?_ _ | refine blk_drew ?_ | refine blk_alloc ?_ _)); refine blk_far ?_ NB107_122.out _; (with_reducible repeat (first | refine blk_drewN ?_ _ | refine blk_drew ?_ | refine blk_alloc ?_ _)); refine blk_far ?_ NB107_122.out _; exact blc) hb); have n7_ := Aside0.mk (blk_below (g := gb114) (o := .cells #[.slice (some ad115) t108.length co11, .slice Ao14 t111.length co14] 46 (0, 0)) (by (with_reducible repeat (first | refine blk_drewN ?_ _ | refine blk_drew ?_ | refine blk_alloc ?_ _)); refine blk_far ?_ NB114_122.out _; (with_reducible repeat (first | refine blk_drewN ?_ _ | refine blk_drew ?_ | refine blk_alloc ?_ _)); refine blk_far ?_ NB114_122.out _; (with_reducible repeat (first | refine blk_drewN ?_ _ | refine blk_drew ?_ | refine blk_alloc ?_ _)); refine blk_far ?_ NB114_122.out _; exact blc) hb); have n8_ := Aside0.mk (blk_below (g := gb122) (o := .cells #[.int .i64 t116, .int .i64 t117, .slice Ao27 t118.length co27] 30 (0, 0)) (by (with_reducible repeat (first | refine blk_drewN ?_ _ | refine blk_drew ?_ | refine blk_alloc ?_ _)); refine blk_put (cs := #[.int .i64 t116, .int .i64 t117, .slice none 0 0]) ?_ 2 _ rfl; (with_reducible repeat (first | refine blk_drewN ?_ _ | refine blk_drew ?_ | refine blk_alloc ?_ _)); refine blk_put (cs := #[.int .i64 t116, .int .i64 0, .slice none 0 0]) ?_ 1 _ rfl; (with_reducible repeat (first | refine blk_drewN ?_ _ | refine blk_drew ?_ | refine blk_alloc ?_ _)); refine blk_put (cs := #[.int .i64 0, .int .i64 0, .slice none 0 0]) ?_ 0 _ rfl; exact blc) hb); have n9_ := Aside0.mk (below_step (bel HB) hb); clear HO_23; clear HO_108002; clear HO_115000; clear HO_115001; clear HO120; clear BK107; clear BK114; clear BK122; clear HB; have HO_23 := n0_; have HO_108002 := n1_; have HO_115000 := n2_; have HO_115001 := n3_; have HO120 := n4_; have HO125 := n5_; have BK107 := n6_; have BK114 := n7_; have BK122 := n8_; have HB := n9_; clear n0_ n1_ n2_ n3_ n4_ n5_ n6_ n7_ n8_ n9_; (try clear hb); (try clear hb2); (try clear hk); (try clear hi); (try clear ho0); have hnb29 := NB114_107.out; have hnc29 := NB107_114.out; have hcz30_0 : w28.cell? ⟨gb114, 0, none⟩ = some (.slice (some ad115) t108.length co11) := (blk_cell BK114.out 0).trans rfl; have hcz30_1 : w28.cell? ⟨gb114, 1, none⟩ = some (.slice Ao14 t111.length co14) := (blk_cell BK114.out 1).trans rfl; have hfz30_0 := blk_frozen BK114.out 0; have hfz30_1 := blk_frozen BK114.out 1; have p127 : 0 ≤ (x25_1 : Int) := of_decide_eq_true (by first | (with_reducible assumption) | assumption); have q127 : x25_1 < (t111.length : Int) := of_decide_eq_true (by first | (with_reducible assumption) | assumption); obtain ⟨ad127, e127, hx127_0⟩ := Kd.at_string (Kd.R_reads' HO_115001.out).2.2 x25_1 p127 q127; cases e127; replace p127 := eq_true p127; replace q127 := eq_true q127))
         go_ret2
         exact ⟨by first | rfl | (simp [errW_none, errW_some] <;> rfl) | (simp [*, errW_none, errW_some] <;> rfl), bel HB⟩
        ·rw [if_neg c21] at H
         exact absurd H (by simp)
       ·rw [if_neg c20] at H
        have c20b0 : decide (t126 ≤ 1) = false := decide_eq_false c20;clear c20;have H' := Aside0.mk H;clear H;have p115 : 0 ≤ (x25_1 : Int) := of_decide_eq_true (by first | (with_reducible assumption) | assumption);have q115 : x25_1 < (t108.length : Int) := of_decide_eq_true (by first | (with_reducible assumption) | assumption);obtain ⟨ad115, e115, hx115_0⟩ := Kd.at_string (Kd.R_reads' HO_23.out).2.2 x25_1 p115 q115
        cases e115
        replace p115 := eq_true p115;replace q115 := eq_true q115
        go_wp2_with (first | ((with_reducible refine gate_callee (f := 9) rfl ?_); refine gcall (some 32) Tryd.func9 #[.string (rdOf ByteArray.empty t108 x25_1)] rfl ?_; (with_reducible refine (spec_tyRead.calls k1 (rdOf ByteArray.empty t108 x25_1) t116 t117 t118 t121 _ A18.out).mono ?_); rintro e w31 ⟨v119, rfl, ho0, hb⟩; refine ⟨_, rfl, ?_⟩; have n0_ := Aside0.mk (Kd.R_below (rch HO_23) hb); have n1_ := Aside0.mk (Kd.R_elder' (rch HO_108002) (Kd.R_base ho0) hb); have n2_ := Aside0.mk (Kd.R_below (rch HO_115000) hb); have n3_ := Aside0.mk (Kd.R_below (rch HO_115001) hb); have n4_ := Aside0.mk (Kd.R_lower (Kd.R_new' ho0 (Kd.R_lt (rch HO_108002))) (below_size (bel HB))); have n5_ := Aside0.mk (blk_below (g := gb107) (o := .cells #[.int .i64 t101, .int .i64 t102, .slice Ao8 t103.length co8] 30 (0, 0)) blc hb); have n6_ := Aside0.mk (blk_below (g := gb114) (o := .cells #[.slice (some ad115) t108.length co11, .slice Ao14 t111.length co14] 46 (0, 0)) blc hb); have n7_ := Aside0.mk (below_step (bel HB) hb); clear HO_23; clear HO_108002; clear HO_115000; clear HO_115001; clear BK107; clear BK114; clear HB; have HO_23 := n0_; have HO_108002 := n1_; have HO_115000 := n2_; have HO_115001 := n3_; have HO120 := n4_; have BK107 := n5_; have BK114 := n6_; have HB := n7_; clear n0_ n1_ n2_ n3_ n4_ n5_ n6_ n7_; (try clear hb); (try clear hb2); (try clear hk); (try clear hi); (try clear ho0)) | ((with_reducible refine gate_dst (N := 9) rfl ?_); refine boxE (N := 9) (cs := #[.int .i64 0, .int .i64 0, .slice none 0 0]) (t := 30) ?_; intro gb122 hg w32 hbox hb; have n0_ := Aside0.mk (Kd.R_below (rch HO_23) hb); have n1_ := Aside0.mk (Kd.R_below (rch HO_108002) hb); have n2_ := Aside0.mk (Kd.R_below (rch HO_115000) hb); have n3_ := Aside0.mk (Kd.R_below (rch HO_115001) hb); have n4_ := Aside0.mk (Kd.R_below (rch HO120) hb); have n5_ := Aside0.mk (blk_below (g := gb107) (o := .cells #[.int .i64 t101, .int .i64 t102, .slice Ao8 t103.length co8] 30 (0, 0)) blc hb); have n6_ := Aside0.mk (blk_below (g := gb114) (o := .cells #[.slice (some ad115) t108.length co11, .slice Ao14 t111.length co14] 46 (0, 0)) blc hb); have n7_ := Aside0.mk (below_step (bel HB) hb); have n8_ := Aside0.mk (hbox); have n9_ := Aside0.mk (gsz hg (bel HB)); have n10_ := Aside0.mk (gsz hg (bel HB)); have n11_ := Aside0.mk ((by rw [hg]; exact Nat.ne_of_lt (blk_lt (g := gb107) (o := .cells #[.int .i64 t101, .int .i64 t102, .slice Ao8 t103.length co8] 30 (0, 0)) blc) : gb107 ≠ gb122)); have n12_ := Aside0.mk ((by rw [hg]; exact Nat.ne_of_gt (blk_lt (g := gb107) (o := .cells #[.int .i64 t101, .int .i64 t102, .slice Ao8 t103.length co8] 30 (0, 0)) blc) : gb122 ≠ gb107)); have n13_ := Aside0.mk ((by rw [hg]; exact Nat.ne_of_lt (blk_lt (g := gb114) (o := .cells #[.slice (some ad115) t108.length co11, .slice Ao14 t111.length co14] 46 (0, 0)) blc) : gb114 ≠ gb122)); have n14_ := Aside0.mk ((by rw [hg]; exact Nat.ne_of_gt (blk_lt (g := gb114) (o := .cells #[.slice (some ad115) t108.length co11, .slice Ao14 t111.length co14] 46 (0, 0)) blc) : gb122 ≠ gb114)); clear HO_23; clear HO_108002; clear HO_115000; clear HO_115001; clear HO120; clear BK107; clear BK114; clear HB; have HO_23 := n0_; have HO_108002 := n1_; have HO_115000 := n2_; have HO_115001 := n3_; have HO120 := n4_; have BK107 := n5_; have BK114 := n6_; have HB := n7_; have BK122 := n8_; have GW122 := n9_; have GE122 := n10_; have NB107_122 := n11_; have NB122_107 := n12_; have NB114_122 := n13_; have NB122_114 := n14_; clear n0_ n1_ n2_ n3_ n4_ n5_ n6_ n7_ n8_ n9_ n10_ n11_ n12_ n13_ n14_; clear hb hbox hg; have hnb33 := NB122_107.out; have hnc33 := NB107_122.out; have hnb34 := NB122_114.out; have hnc34 := NB114_122.out; have hcz35_0 : w32.cell? ⟨gb122, 0, none⟩ = some (.int .i64 0) := (blk_cell BK122.out 0).trans rfl; have hcz35_1 : w32.cell? ⟨gb122, 1, none⟩ = some (.int .i64 0) := (blk_cell BK122.out 1).trans rfl; have hcz35_2 : w32.cell? ⟨gb122, 2, none⟩ = some (.slice none 0 0) := (blk_cell BK122.out 2).trans rfl; have hfz35_0 := blk_frozen BK122.out 0; have hfz35_1 := blk_frozen BK122.out 1; have hfz35_2 := blk_frozen BK122.out 2; obtain ⟨Ao36, co36, eo36⟩ := Kd.R_slice HO120.out; subst eo36) | ((with_reducible refine gate_callee (f := 11) rfl ?_); refine gcall (some 37) Tryd.func11 #[.agg #[.int .i64 t116, .int .i64 t117, .slice Ao36 t118.length co36]] rfl ?_; (with_reducible refine (spec_skPieces.calls k1 t116 t117 _ _ t118 t123 t126 _ ?side1 ?side2 A19.out).mono ?_); (case side1 => refine (Kd.R_reads' (e := 5) (base := w.heap.size) (ok := fun k_ => (True ∧ some k_ ≠ (.slice Ao8 t103.length co8 : Value).ownBlock)) (n := t118.length) (c := co36) ?_).2.2; exact (by (with_reducible repeat (first | apply Kd.R_alloc | apply Kd.R_drewN | apply Kd.R_drew)); exact (Kd.R_mono (Kd.R_far (p := ⟨gb122, 2, none⟩) (Kd.R_far (p := ⟨gb122, 1, none⟩) (Kd.R_far (p := ⟨gb122, 0, none⟩) (Kd.R_types HO120.out BK122.out (by decide)) (fun _ hk => hk.2) (.int .i64 t116)) (fun _ hk => hk.2) (.int .i64 t117)) (fun _ hk => hk.2) (.slice Ao36 t118.length co36)) (fun _ h_ => h_.1)))); (case side2 => exact (Kd.R_reads' HO120.out).2.1); rintro e w37 ⟨v124, rfl, ho0, hb⟩; refine ⟨_, rfl, ?_⟩; have n0_ := Aside0.mk (Kd.R_below (by (with_reducible repeat (first | apply Kd.R_alloc | apply Kd.R_drewN | apply Kd.R_drew)); exact (Kd.R_mono (Kd.R_far (p := ⟨gb122, 2, none⟩) (Kd.R_far (p := ⟨gb122, 1, none⟩) (Kd.R_far (p := ⟨gb122, 0, none⟩) (Kd.R_types HO_23.out BK122.out (by decide)) (fun _ hk => hk.2) (.int .i64 t116)) (fun _ hk => hk.2) (.int .i64 t117)) (fun _ hk => hk.2) (.slice Ao36 t118.length co36)) (fun _ h_ => h_.1))) hb); have n1_ := Aside0.mk (Kd.R_below (by (with_reducible repeat (first | apply Kd.R_alloc | apply Kd.R_drewN | apply Kd.R_drew)); exact (Kd.R_mono (Kd.R_far (p := ⟨gb122, 2, none⟩) (Kd.R_far (p := ⟨gb122, 1, none⟩) (Kd.R_far (p := ⟨gb122, 0, none⟩) (Kd.R_types HO_108002.out BK122.out (by decide)) (fun _ hk => hk.2) (.int .i64 t116)) (fun _ hk => hk.2) (.int .i64 t117)) (fun _ hk => hk.2) (.slice Ao36 t118.length co36)) (fun _ h_ => h_.1))) hb); have n2_ := Aside0.mk (Kd.R_below (by (with_reducible repeat (first | apply Kd.R_alloc | apply Kd.R_drewN | apply Kd.R_drew)); exact (Kd.R_mono (Kd.R_far (p := ⟨gb122, 2, none⟩) (Kd.R_far (p := ⟨gb122, 1, none⟩) (Kd.R_far (p := ⟨gb122, 0, none⟩) (Kd.R_types HO_115000.out BK122.out (by decide)) (fun _ hk => hk.2) (.int .i64 t116)) (fun _ hk => hk.2) (.int .i64 t117)) (fun _ hk => hk.2) (.slice Ao36 t118.length co36)) (fun _ h_ => h_.1))) hb); have n3_ := Aside0.mk (Kd.R_below (by (with_reducible repeat (first | apply Kd.R_alloc | apply Kd.R_drewN | apply Kd.R_drew)); exact (Kd.R_mono (Kd.R_far (p := ⟨gb122, 2, none⟩) (Kd.R_far (p := ⟨gb122, 1, none⟩) (Kd.R_far (p := ⟨gb122, 0, none⟩) (Kd.R_types HO_115001.out BK122.out (by decide)) (fun _ hk => hk.2) (.int .i64 t116)) (fun _ hk => hk.2) (.int .i64 t117)) (fun _ hk => hk.2) (.slice Ao36 t118.length co36)) (fun _ h_ => h_.1))) hb); have n4_ := Aside0.mk (Kd.R_below (by (with_reducible repeat (first | apply Kd.R_alloc | apply Kd.R_drewN | apply Kd.R_drew)); exact (Kd.R_mono (Kd.R_far (p := ⟨gb122, 2, none⟩) (Kd.R_far (p := ⟨gb122, 1, none⟩) (Kd.R_far (p := ⟨gb122, 0, none⟩) (Kd.R_types HO120.out BK122.out (by decide)) (fun _ hk => hk.2) (.int .i64 t116)) (fun _ hk => hk.2) (.int .i64 t117)) (fun _ hk => hk.2) (.slice Ao36 t118.length co36)) (fun _ h_ => h_.1))) hb); have n5_ := Aside0.mk (Kd.R_lower ho0 (below_size (bel HB))); have n6_ := Aside0.mk (blk_below (g := gb107) (o := .cells #[.int .i64 t101, .int .i64 t102, .slice Ao8 t103.length co8] 30 (0, 0)) (by (with_reducible repeat (first | refine blk_drewN ?_ _ | refine blk_drew ?_ | refine blk_alloc ?_ _)); refine blk_far ?_ NB107_122.out _; (with_reducible repeat (first | refine blk_drewN ?_ _ | refine blk_drew ?_ | refine blk_alloc ?_ _)); refine blk_far ?_ NB107_122.out _; (with_reducible repeat (first | refine blk_drewN ?_ _ | refine blk_drew ?_ | refine blk_alloc ?_ _)); refine blk_far ?_ NB107_122.out _; exact blc) hb); have n7_ := Aside0.mk (blk_below (g := gb114) (o := .cells #[.slice (some ad115) t108.length co11, .slice Ao14 t111.length co14] 46 (0, 0)) (by (with_reducible repeat (first | refine blk_drewN ?_ _ | refine blk_drew ?_ | refine blk_alloc ?_ _)); refine blk_far ?_ NB114_122.out _; (with_reducible repeat (first | refine blk_drewN ?_ _ | refine blk_drew ?_ | refine blk_alloc ?_ _)); refine blk_far ?_ NB114_122.out _; (with_reducible repeat (first | refine blk_drewN ?_ _ | refine blk_drew ?_ | refine blk_alloc ?_ _)); refine blk_far ?_ NB114_122.out _; exact blc) hb); have n8_ := Aside0.mk (blk_below (g := gb122) (o := .cells #[.int .i64 t116, .int .i64 t117, .slice Ao36 t118.length co36] 30 (0, 0)) (by (with_reducible repeat (first | refine blk_drewN ?_ _ | refine blk_drew ?_ | refine blk_alloc ?_ _)); refine blk_put (cs := #[.int .i64 t116, .int .i64 t117, .slice none 0 0]) ?_ 2 _ rfl; (with_reducible repeat (first | refine blk_drewN ?_ _ | refine blk_drew ?_ | refine blk_alloc ?_ _)); refine blk_put (cs := #[.int .i64 t116, .int .i64 0, .slice none 0 0]) ?_ 1 _ rfl; (with_reducible repeat (first | refine blk_drewN ?_ _ | refine blk_drew ?_ | refine blk_alloc ?_ _)); refine blk_put (cs := #[.int .i64 0, .int .i64 0, .slice none 0 0]) ?_ 0 _ rfl; exact blc) hb); have n9_ := Aside0.mk (below_step (bel HB) hb); clear HO_23; clear HO_108002; clear HO_115000; clear HO_115001; clear HO120; clear BK107; clear BK114; clear BK122; clear HB; have HO_23 := n0_; have HO_108002 := n1_; have HO_115000 := n2_; have HO_115001 := n3_; have HO120 := n4_; have HO125 := n5_; have BK107 := n6_; have BK114 := n7_; have BK122 := n8_; have HB := n9_; clear n0_ n1_ n2_ n3_ n4_ n5_ n6_ n7_ n8_ n9_; (try clear hb); (try clear hb2); (try clear hk); (try clear hi); (try clear ho0)))
        go_roundg k1
        case measure => have := HK1.out; omega
        case rel => exact ⟨(wrap64 (x25_1 + 1)), (by first | rfl | (simp; done) | (simp [*]; done)), H', ⟨by have := HK1.out; omega⟩, ⟨rch HO_23⟩, ⟨by (with_reducible repeat (first | apply Kd.R_alloc | apply Kd.R_drewN | apply Kd.R_drew)); exact Kd.R_mono HO_108002.out (fun _ hk => trivial)⟩, ⟨rch HO_115000⟩, ⟨rch HO_115001⟩, ⟨blc⟩, ⟨blc⟩, ⟨bel HB⟩⟩
      ·rw [if_neg c17] at H
       exact absurd H (by simp)
     ·rw [if_neg c16] at H
      exact absurd H (by simp)
    ·rw [if_neg c15] at H
     have c15b0 : decide (x25_1 < (t108.length : Int)) = false := decide_eq_false c15;clear c15
     simp only [Option.some.injEq, Prod.mk.injEq] at H
     obtain ⟨rfl, rfl⟩ := H
     go_wp2
     go_ret2
     exact ⟨by first | rfl | (simp [errW_none, errW_some] <;> rfl) | (simp [*, errW_none, errW_some] <;> rfl), bel HB⟩
 ·replace c3 := Bool.eq_false_iff.mpr c3
  subst c3
  have H1 : (some ((⟨#[]⟩ : ByteArray), false)) = some (r1, r2) := by rw [if_neg (show ¬ (false = true) by decide)] at H; exact H
  clear H;have H := H1;clear H1
  simp only [Option.some.injEq, Prod.mk.injEq] at H
  obtain ⟨rfl, rfl⟩ := H
  go_enter Tryd.func7, Tryd.ntmps7
  go_wp2_with (first | ((with_reducible refine gate_callee (f := 9) rfl ?_); refine gcall (some 15) Tryd.func9 #[.string a0] rfl ?_; (with_reducible refine (spec_tyRead.calls k a0 t101 t102 t103 false _ A2.out).mono ?_); rintro e w38 ⟨v104, rfl, ho0, hb⟩; refine ⟨_, rfl, ?_⟩; have n0_ := Aside0.mk (Kd.R_lower ho0 (below_size (bel HB))); have n1_ := Aside0.mk (below_step (bel HB) hb); clear HB; have HO105 := n0_; have HB := n1_; clear n0_ n1_; (try clear hb); (try clear hb2); (try clear hk); (try clear hi); (try clear ho0)) | ((with_reducible refine gate_dst (N := 4) rfl ?_); refine boxE (N := 4) (cs := #[.int .i64 0, .int .i64 0, .slice none 0 0]) (t := 30) ?_; intro gb107 hg w39 hbox hb; have n0_ := Aside0.mk (Kd.R_below (rch HO105) hb); have n1_ := Aside0.mk (below_step (bel HB) hb); have n2_ := Aside0.mk (hbox); have n3_ := Aside0.mk (gsz hg (bel HB)); have n4_ := Aside0.mk (gsz hg (bel HB)); clear HO105; clear HB; have HO105 := n0_; have HB := n1_; have BK107 := n2_; have GW107 := n3_; have GE107 := n4_; clear n0_ n1_ n2_ n3_ n4_; clear hb hbox hg; have hcz40_0 : w39.cell? ⟨gb107, 0, none⟩ = some (.int .i64 0) := (blk_cell BK107.out 0).trans rfl; have hcz40_1 : w39.cell? ⟨gb107, 1, none⟩ = some (.int .i64 0) := (blk_cell BK107.out 1).trans rfl; have hcz40_2 : w39.cell? ⟨gb107, 2, none⟩ = some (.slice none 0 0) := (blk_cell BK107.out 2).trans rfl; have hfz40_0 := blk_frozen BK107.out 0; have hfz40_1 := blk_frozen BK107.out 1; have hfz40_2 := blk_frozen BK107.out 2; obtain ⟨Ao41, co41, eo41⟩ := Kd.R_slice HO105.out; subst eo41))
  go_ret2
  exact ⟨by first | rfl | (simp [errW_none, errW_some] <;> rfl) | (simp [*, errW_none, errW_some] <;> rfl), bel HB⟩
def laws_FnExactWordToOne.f (k : Nat) (a0 : ByteArray) : Option (Bool) := if (a0.size : Int) > 1048576 then (some true) else ((spec_WordToOne.f k a0).bind fun bt101 => ((impl_WordToOne.f k a0).bind fun bt103 => (if bt103.1.toList = bt101.1.toList then (if (bt103.2 != bt101.2) = true then (some false) else (some true)) else (some false))))
set_option maxHeartbeats 8000000 in
set_option maxRecDepth 100000 in
theorem laws_FnExactWordToOne.calls (k : Nat) (a0 : ByteArray) (r : Bool) (w : World) (hG : GoodW w) (h : laws_FnExactWordToOne.f k a0 = some r) :
  Calls Tryd.prog 4 #[.string a0] w fun e w' => e = .returned (.bool r) ∧ Below w.heap.size w w' := by
 have HG := Aside0.mk hG;clear hG;have HB := Aside0.mk (Below.refl w.heap.size w);have H : (if (a0.size : Int) > 1048576 then (some true) else ((spec_WordToOne.f k a0).bind fun bt101 => ((impl_WordToOne.f k a0).bind fun bt103 => (if bt103.1.toList = bt101.1.toList then (if (bt103.2 != bt101.2) = true then (some false) else (some true)) else (some false))))) = some r := h;clear h
 by_cases c2 : (a0.size : Int) > 1048576
 ·rw [if_pos c2] at H
  have c2b0 : decide (1048576 < (a0.size : Int)) = true := decide_eq_true c2;have c2b1 : decide (1048576 < a0.size) = true := decide_eq_true (by omega);clear c2;obtain rfl := Option.some.inj H
  go_enter Tryd.func4, Tryd.ntmps4
  go_wp2
  go_ret
  exact ⟨by first | rfl | (simp [errW_none, errW_some] <;> rfl) | (simp [*, errW_none, errW_some] <;> rfl), bel HB⟩
 ·rw [if_neg c2] at H
  have c2b0 : decide (1048576 < (a0.size : Int)) = false := decide_eq_false c2;have c2b1 : decide (1048576 < a0.size) = false := decide_eq_false (by omega);clear c2;replace H := Option.bind_eq_some_iff.mp H;obtain ⟨⟨t101, t102⟩, A30, H⟩ := H;replace H : ((impl_WordToOne.f k a0).bind fun bt103 => (if bt103.1.toList = t101.toList then (if (bt103.2 != t102) = true then (some false) else (some true)) else (some false))) = some r := H;have A3 := Aside0.mk A30;clear A30;replace H := Option.bind_eq_some_iff.mp H;obtain ⟨⟨t103, t104⟩, A40, H⟩ := H;replace H : (if t103.toList = t101.toList then (if (t104 != t102) = true then (some false) else (some true)) else (some false)) = some r := H;have A4 := Aside0.mk A40;clear A40
  by_cases c5 : t103.toList = t101.toList
  ·rw [if_pos c5] at H
   have c5b0 : (t103.toList == t101.toList) = true := beq_iff_eq.mpr c5;have c5b1 : (t103.toList != t101.toList) = false := bne_eq_false_iff_eq.mpr c5;clear c5
   by_cases c6 : (t104 != t102) = true
   ·rw [if_pos c6] at H
    have c6b0 : (t104 != t102) = true := c6
    (try (have c6b1 : decide (t104 = t102) = false := by simpa using c6))
    (try (have c6b2 : (t104 == t102) = false := by simpa using c6))
    (try (have c6b3 : ¬ (t104 = t102) := by simpa using c6))
    clear c6;obtain rfl := Option.some.inj H
    go_enter Tryd.func4, Tryd.ntmps4
    go_wp2_with (first | ((with_reducible refine gate_callee (f := 7) rfl ?_); refine gcall (some 12) Tryd.func7 #[.string a0] rfl ?_; (with_reducible refine (spec_WordToOne.calls k a0 t101 t102 _ A3.out).mono ?_); rintro e w7 ⟨rfl, hb⟩; refine ⟨_, rfl, ?_⟩; have n0_ := Aside0.mk (below_step (bel HB) hb); clear HB; have HB := n0_; clear n0_; (try clear hb); (try clear hb2); (try clear hk); (try clear hi)) | ((with_reducible refine gate_callee (f := 8) rfl ?_); refine gcall (some 17) Tryd.func8 #[.string a0] rfl ?_; (with_reducible refine (impl_WordToOne.calls k a0 t103 t104 _ ?side1 A4.out).mono ?_); (case side1 => (refine GoodW.below HG.out ?_); exact bel HB); rintro e w8 ⟨rfl, hb⟩; refine ⟨_, rfl, ?_⟩; have n0_ := Aside0.mk (below_step (bel HB) hb); clear HB; have HB := n0_; clear n0_; (try clear hb); (try clear hb2); (try clear hk); (try clear hi)))
    go_ret
    exact ⟨by first | rfl | (simp [errW_none, errW_some] <;> rfl) | (simp [*, errW_none, errW_some] <;> rfl), bel HB⟩
   ·rw [if_neg c6] at H
    have c6b0 : (t104 != t102) = false := by simpa using c6
    (try (have c6b1 : decide (t104 = t102) = true := by simpa using c6))
    (try (have c6b2 : (t104 == t102) = true := by simpa using c6))
    clear c6;obtain rfl := Option.some.inj H
    go_enter Tryd.func4, Tryd.ntmps4
    go_wp2_with (first | ((with_reducible refine gate_callee (f := 7) rfl ?_); refine gcall (some 12) Tryd.func7 #[.string a0] rfl ?_; (with_reducible refine (spec_WordToOne.calls k a0 t101 t102 _ A3.out).mono ?_); rintro e w9 ⟨rfl, hb⟩; refine ⟨_, rfl, ?_⟩; have n0_ := Aside0.mk (below_step (bel HB) hb); clear HB; have HB := n0_; clear n0_; (try clear hb); (try clear hb2); (try clear hk); (try clear hi)) | ((with_reducible refine gate_callee (f := 8) rfl ?_); refine gcall (some 17) Tryd.func8 #[.string a0] rfl ?_; (with_reducible refine (impl_WordToOne.calls k a0 t103 t104 _ ?side1 A4.out).mono ?_); (case side1 => (refine GoodW.below HG.out ?_); exact bel HB); rintro e w10 ⟨rfl, hb⟩; refine ⟨_, rfl, ?_⟩; have n0_ := Aside0.mk (below_step (bel HB) hb); clear HB; have HB := n0_; clear n0_; (try clear hb); (try clear hb2); (try clear hk); (try clear hi)))
    go_ret
    exact ⟨by first | rfl | (simp [errW_none, errW_some] <;> rfl) | (simp [*, errW_none, errW_some] <;> rfl), bel HB⟩
  ·rw [if_neg c5] at H
   have c5b0 : (t103.toList == t101.toList) = false := beq_eq_false_iff_ne.mpr c5;have c5b1 : (t103.toList != t101.toList) = true := bne_iff_ne.mpr c5;obtain rfl := Option.some.inj H
   go_enter Tryd.func4, Tryd.ntmps4
   go_wp2_with (first | ((with_reducible refine gate_callee (f := 7) rfl ?_); refine gcall (some 12) Tryd.func7 #[.string a0] rfl ?_; (with_reducible refine (spec_WordToOne.calls k a0 t101 t102 _ A3.out).mono ?_); rintro e w11 ⟨rfl, hb⟩; refine ⟨_, rfl, ?_⟩; have n0_ := Aside0.mk (below_step (bel HB) hb); clear HB; have HB := n0_; clear n0_; (try clear hb); (try clear hb2); (try clear hk); (try clear hi)) | ((with_reducible refine gate_callee (f := 8) rfl ?_); refine gcall (some 17) Tryd.func8 #[.string a0] rfl ?_; (with_reducible refine (impl_WordToOne.calls k a0 t103 t104 _ ?side1 A4.out).mono ?_); (case side1 => (refine GoodW.below HG.out ?_); exact bel HB); rintro e w12 ⟨rfl, hb⟩; refine ⟨_, rfl, ?_⟩; have n0_ := Aside0.mk (below_step (bel HB) hb); clear HB; have HB := n0_; clear n0_; (try clear hb); (try clear hb2); (try clear hk); (try clear hi)))
   go_ret
   exact ⟨by first | rfl | (simp [errW_none, errW_some] <;> rfl) | (simp [*, errW_none, errW_some] <;> rfl), bel HB⟩
end Go.Proofs.YtkjlfgceodindaaDoor.Q
end
