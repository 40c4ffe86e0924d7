/- impl.read: a text's rows, and their bytes joined, as the cells of a tray. -/
import Derived.Test.YtbplbbialcbceaaDoorXlib
import Derived.Test.YtbplbbialcbceaaDoorXconv
import Derived.Deep.RegionHeld3
import Derived.Test.YtbplbbialcbceaaDoorXrows
namespace Go.Proofs.YtbplbbialcbceaaDoor.Q
open Go.RowKit Go.Shelf Go.Proofs.YtbplbbialcbceaaDoorW.PrintWords Go.Proofs.YtbplbbialcbceaaDoorW.PrintLast Go.Proofs.YtbplbbialcbceaaDoorW.PrintMore
def sep1 : ByteArray := ⟨#[47]⟩
def rowsL (s : ByteArray) : List ByteArray := Lib.splitB sep1 0 (Lib.countB s sep1) s
def joinedB (s : ByteArray) : ByteArray := ⟨(Lib.join ((rowsL s).map (·.data.toList)) []).toArray⟩
theorem rowsL_map (s : ByteArray) : (rowsL s).map (·.data.toList) = rows 47 s.data.toList := by
  unfold rowsL
  rw [Lib.splitB_data]
  have h : Lib.countB s sep1 = s.data.toList.count 47 := Lib.count_one 47 s.data.toList
  rw [h]
  exact splitK_rows 47 _ _ rfl
theorem join_none (xs : List (List UInt8)) : Lib.join xs [] = xs.flatten := by
  unfold Lib.join
  induction xs with
  | nil => rfl
  | cons x xs ih =>
    cases xs with
    | nil => simp [List.intercalate]
    | cons y ys =>
      simp only [List.intercalate, List.intersperse] at ih ⊢
      simpa using ih
theorem joinedB_list (s : ByteArray) : (joinedB s).data.toList = (rows 47 s.data.toList).flatten := by
  unfold joinedB
  rw [rowsL_map, join_none]
theorem joinedB_size (s : ByteArray) : (joinedB s).size ≤ s.size := by
  have h := rows_flat 47 s.data.toList
  rw [← joinedB_list] at h
  simpa using h
def impl_read.f (a0 : ByteArray) : Option (Int × Int × List Int) := if a0.size ≤ 1048576 then some (((rowsL a0).getD 0 ByteArray.empty).size, (rowsL a0).length, bytesOf (joinedB a0)) else none
def slotV (w : World) (a : Addr) : Value := (w.cell? a).getD undef
theorem slotV_def (w : World) (a : Addr) : slotV w a = (w.cell? a).getD undef := rfl
structure SR (w : World) (ad : Addr) (n : Nat) (xs : List ByteArray) (w' : World) : Prop where
  below : Below w.heap.size w w'
  slot : ∃ cs, cs.size = 3 ∧ w'.heap[w.heap.size]? = some (.cells cs 45 (0, 0))
  reads : Kd.C Kd.string w' (some ad) n xs
  apart : ad.block ≠ w.heap.size
section
variable {w : World} {ad : Addr} {n : Nat} {xs : List ByteArray} {w1 w2 : World}
theorem SR.step (h : SR w ad n xs w1) (hb : Below w1.heap.size w1 w2) : SR w ad n xs w2 := by
  obtain ⟨cs, hc, hs⟩ := h.slot
  exact ⟨below_then h.below h.below.size hb, ⟨cs, hc, (hb.block _ (blk_lt hs)).trans hs⟩, Kd.C_below h.reads hb, h.apart⟩
theorem SR.drew (h : SR w ad n xs w1) : SR w ad n xs w1.drew := h.step (below_drew (Below.refl _ _))
theorem SR.bytes (h : SR w ad n xs w1) (e : TypeId) (s : ByteArray) : SR w ad n xs (Lib.bytesWorld w1 e s) :=
  h.step ⟨rfl, rfl, rfl, by rw [Lib.bytesWorld_size]; omega, fun i hi => Lib.bytesWorld_at_old w1 e s i hi⟩
theorem SR.set (h : SR w ad n xs w1) (j : Nat) (v : Value) : SR w ad n xs (w1.setCell ⟨w.heap.size, j, none⟩ v) := by
  obtain ⟨cs, hc, hs⟩ := h.slot
  refine ⟨below_set h.below (Nat.le_refl _), ⟨_, by simpa using hc, blk_set hs j v⟩, ⟨h.reads.1, h.reads.2.1, fun hn => ?_⟩, h.apart⟩
  obtain ⟨ad', e, hcell⟩ := h.reads.2.2 hn
  refine ⟨ad', e, fun i p hi => ?_⟩
  obtain ⟨c, hl, hk, hg⟩ := hcell i p hi
  refine ⟨c, hl, hk, fun q u hq => (World.cell?_setCell_other w1 _ _ v ?_).trans (hg q u hq)⟩
  intro e2
  have e3 := congrArg Addr.block e2
  rw [add_block] at e3
  injection e with e
  subst e
  exact h.apart e3.symm
theorem three_set {cs : Array Value} (h : cs.size = 3) {a b c : Value} : ((cs.setIfInBounds 0 a).setIfInBounds 1 b).setIfInBounds 2 c = #[a, b, c] := by
  obtain ⟨l⟩ := cs
  match l, h with
  | [_, _, _], _ => rfl
def SRC (w : World) (ad : Addr) (n : Nat) (xs : List ByteArray) (w1 : World) : Prop := SR w ad n xs w1
theorem slotV_of {w1 : World} {g j : Nat} {cs : Array Value} (h : w1.heap[g]? = some (.cells cs 45 (0, 0))) (hj : j < cs.size) : w1.cell? ⟨g, j, none⟩ = some (slotV w1 ⟨g, j, none⟩) := by
  rw [slotV_def, blk_cell h j, Array.getElem?_eq_getElem hj]
  rfl
theorem SR.all (h : SR w ad n xs w1) (hn : 0 < xs.length) :
    w1.cell? ad = some (.string (xs.getD 0 ByteArray.empty)) ∧ w1.cell? ⟨w.heap.size, 0, none⟩ = some (slotV w1 ⟨w.heap.size, 0, none⟩) ∧ w1.cell? ⟨w.heap.size, 1, none⟩ = some (slotV w1 ⟨w.heap.size, 1, none⟩) ∧ w1.cell? ⟨w.heap.size, 2, none⟩ = some (slotV w1 ⟨w.heap.size, 2, none⟩) ∧
    w1.frozen? ⟨w.heap.size, 0, none⟩ = false ∧ w1.frozen? ⟨w.heap.size, 1, none⟩ = false ∧ w1.frozen? ⟨w.heap.size, 2, none⟩ = false ∧ SRC w ad n xs w1 := by
  obtain ⟨ad', e, hx⟩ := Kd.at_string h.reads 0 (by omega) (by have := h.reads.1; omega)
  injection e with e
  subst e
  obtain ⟨cs, hc, hs⟩ := h.slot
  exact ⟨by simpa [Addr.add, rdOf] using hx, slotV_of hs (by omega), slotV_of hs (by omega), slotV_of hs (by omega), blk_frozen hs 0, blk_frozen hs 1, blk_frozen hs 2, h⟩
theorem SR.of {v v0 v1 v2 : Value}
    (h : w1.cell? ad = some v ∧ w1.cell? ⟨w.heap.size, 0, none⟩ = some v0 ∧ w1.cell? ⟨w.heap.size, 1, none⟩ = some v1 ∧ w1.cell? ⟨w.heap.size, 2, none⟩ = some v2 ∧
    w1.frozen? ⟨w.heap.size, 0, none⟩ = false ∧ w1.frozen? ⟨w.heap.size, 1, none⟩ = false ∧ w1.frozen? ⟨w.heap.size, 2, none⟩ = false ∧ SRC w ad n xs w1) : SR w ad n xs w1 := h.2.2.2.2.2.2.2
end
set_option maxHeartbeats 4000000 in
set_option maxRecDepth 100000 in
theorem impl_read.calls (a0 : ByteArray) (r1 r2 : Int) (r3 : List Int) (w : World) (hG : GoodW w) (h : impl_read.f a0 = some (r1, r2, r3)) :
    Calls Tryd.prog 29 #[.string a0] w fun e w' => ∃ v2_ : Value, e = .returned (.agg #[.int .i64 r1, .int .i64 r2, v2_]) ∧ Kd.V (Kd.int .u8) 5 w' w.heap.size (fun k_ => w.heap.size ≤ k_) v2_ r3 ∧ Below w.heap.size w w' := by
  unfold impl_read.f at h
  split at h
  case isFalse => cases h
  rename_i hsz
  simp only [Option.some.injEq, Prod.mk.injEq] at h
  obtain ⟨rfl, rfl, rfl⟩ := h
  have HG := Aside0.mk hG
  have hsp : strings_Split.f a0 sep1 = some (rowsL a0) := by
    unfold strings_Split.f
    rw [if_pos ⟨by omega, by decide⟩]
    rfl
  have hrl : 0 < (rowsL a0).length := by
    unfold rowsL
    rw [Lib.splitB_all sep1 (by decide) 0 _ a0 rfl]
    omega
  go_enter Tryd.func29, Tryd.ntmps29
  go_wp2_with fail
  refine (strings_Split.calls a0 sep1 (rowsL a0) _ (hG.below (below_alloc (Below.refl _ _) _)) hsp).mono ?_
  rintro e w1 ⟨v, rfl, hR, hB⟩
  obtain ⟨A, c, rfl, hlc, hC⟩ := Kd.R_reads hR
  obtain ⟨ad, rfl, hx⟩ := Kd.at_string hC 0 (by omega) (by omega)
  have hap : ad.block ≠ w.heap.size := by
    have h2 := Kd.R_base hR ad.block (by simp [Value.ownBlock])
    simp at h2
    omega
  have S0 : SR w ad (rowsL a0).length (rowsL a0) w1 := ⟨below_then (below_alloc (Below.refl _ _) _) (by simp) hB, ⟨_, rfl, (hB.block _ (by simp)).trans (heap_alloc_new w _)⟩, hC, hap⟩
  have n0 : (0 : Int) < ((rowsL a0).length : Int) := by omega
  have kb := fun (W : World) (s : ByteArray) => Lib.run_convert_string_bytes (P := Tryd.prog) W 9 37 5 s Tryd.underlying9 Tryd.underlying37 Tryd.underlying5
  have hx0 : w1.cell? ad = some (.string ((rowsL a0).getD 0 ByteArray.empty)) := by simpa [Addr.add, rdOf] using hx
  have hjn : strings_Join.f (rowsL a0) ⟨#[]⟩ = some (joinedB a0) := by
    unfold strings_Join.f
    have h1 := Lib.countB_le sep1 (by decide) a0.size a0 (Nat.le_refl _)
    have h2 := Lib.splitB_all sep1 (by decide) 0 _ a0 rfl
    have h3 := joinedB_size a0
    have h4 : (Lib.join ((rowsL a0).map (·.data.toList)) (⟨#[]⟩ : ByteArray).data.toList).length = (joinedB a0).size := by
      show _ = (Lib.join ((rowsL a0).map (·.data.toList)) []).toArray.size
      rw [List.size_toArray]
    rw [if_pos ⟨by unfold rowsL; omega, by rw [h4]; omega⟩]
    rfl
  clear hx hG hB hR HG hC hap
  go_wp2_with fail
  obtain ⟨hxd, _, _, _, _, _, _, SD⟩ := SR.all S0.drew hrl
  go_region_with (refine (strings_Join.calls (some ad) c (rowsL a0) ⟨#[]⟩ (joinedB a0) _ (S0.drew).reads hlc hjn).mono ?_; rintro e w2 ⟨rfl, hb2⟩; (have S2 := S0.drew.step hb2); (obtain ⟨hx2, _, _, _, _, _, _, _⟩ := SR.all S2 hrl); (obtain ⟨hx3, hs0, hs1, hs2, hf0, hf1, hf2, _⟩ := SR.all (S2.bytes 5 (joinedB a0)) hrl))
  all_goals go_wp2
  all_goals
    obtain ⟨cs, hc, hs⟩ := S2.slot
    have hz : (joinedB a0).size ≤ 140737488355328 := by have := joinedB_size a0; omega
    have e0 : (rowsL a0).getD 0 ByteArray.empty = (rowsL a0)[0] := by rw [List.getD_eq_getElem?_getD, List.getElem?_eq_getElem hrl]; rfl
    have b0 := (Lib.bytesWorld_at_old w2 5 (joinedB a0) w.heap.size (blk_lt hs)).trans hs
    have b1 := blk_set (blk_set (blk_set b0 0 (.int .i64 ((rowsL a0)[0].size : Int))) 1 (.int .i64 ((rowsL a0).length : Int))) 2 (.slice (some ⟨w2.heap.size, 0, none⟩) (joinedB a0).size (grownCap w2 (joinedB a0).size 0 5))
    rw [three_set hc] at b1
    have hlt := blk_lt hs
    refine bodyPost_ret (results_cell_row rfl _ _ w.heap.size 45 _ (0, 0) _ rfl b1 Tryd.underlying45 rfl (by kernel_rfl)) rfl ⟨_, by rw [e0], ?_, ?_⟩
    · refine V_bytes (joinedB a0) hz (Array.replicate (grownCap w2 (joinedB a0).size 0 5 - (joinedB a0).size) (.int .u8 0)) ((Lib.bytesCells w2 5 (joinedB a0)).size, (Lib.bytesCells w2 5 (joinedB a0)).size + 1) ?_ (by have := S2.below.size; omega) (grownCap_ge _ _ _ _)
      rw [Below.heap_setCell _ _ _ _ (by simp; omega), Below.heap_setCell _ _ _ _ (by simp; omega), Below.heap_setCell _ _ _ _ (by simp; omega)]
      exact Lib.bytesWorld_at_new w2 5 (joinedB a0)
    · exact below_set (below_set (below_set (S2.bytes 5 (joinedB a0)).below (Nat.le_refl _)) (Nat.le_refl _)) (Nat.le_refl _)
end Go.Proofs.YtbplbbialcbceaaDoor.Q
