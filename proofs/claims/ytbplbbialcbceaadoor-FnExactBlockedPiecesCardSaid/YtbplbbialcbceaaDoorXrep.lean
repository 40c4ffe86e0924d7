/- slices.Repeat of a list of one number. -/
import Derived.Test.YtbplbbialcbceaaDoorQm
import Derived.Laws.CopyOwn
import Derived.Deep.RegionLaw
import Derived.Laws.MakeOwn
namespace Go.Proofs.YtbplbbialcbceaaDoor.Q
open Go.RowKit Go.Proofs.YtbplbbialcbceaaDoorW.PrintWords Go.Proofs.YtbplbbialcbceaaDoorW.PrintLast Go.Proofs.YtbplbbialcbceaaDoorW.PrintMore
theorem mul_small : ∀ n : Nat, n ≤ 64 → bits_Mul.f 1 (n : Int) = some (0, (n : Int)) := by
  intro n hn
  have h : ∀ m : Fin 65, bits_Mul.f 1 (m.val : Int) = some (0, (m.val : Int)) := by decide
  exact h ⟨n, by omega⟩
def slices_Repeat_int.f (l0 : List Int) (a1 : Int) : Option (List Int) := if l0.length = 1 ∧ 1 ≤ a1 ∧ a1 ≤ 64 then some (List.replicate a1.toNat (l0.getD 0 0)) else none
def fillC (n N : Nat) (x : Int) : List Value := List.replicate n (.int .i64 x) ++ List.replicate (N - n) (.int .i64 0)
theorem fillC_len {n N : Nat} (x : Int) (h : n ≤ N) : (fillC n N x).length = N := by simp [fillC]; omega
theorem fillC_zero (N : Nat) (x : Int) : List.replicate N (.int .i64 0) = fillC 0 N x := by simp [fillC]
theorem fillC_full (N : Nat) (x : Int) : fillC N N x = List.replicate N (.int .i64 x) := by simp [fillC]
theorem fillC_splice {n N : Nat} (x : Int) (k : Nat) (h : n + k ≤ N) : splice (fillC n N x) n (List.replicate k (.int .i64 x)) = fillC (n + k) N x := by
  unfold splice fillC
  rw [List.take_left' (by simp), List.length_replicate, List.drop_append, List.drop_eq_nil_of_le (by simp), List.nil_append, List.length_replicate, List.drop_replicate, ← List.append_assoc, List.replicate_append_replicate]
  congr 2
  omega
theorem fillC_at {n N j : Nat} (x : Int) (h : j < n) : (fillC n N x)[j]? = some (.int .i64 x) := by
  unfold fillC
  rw [List.getElem?_append_left (by simpa using h), List.getElem?_replicate, if_pos h]
theorem wpList_makeInt {P : Program} {w w0 : World} {ops : Array Oper} {rest : List Oper} {o : Oper} {a : Act} {Q : Exit → Act → World → Prop} {B : Nat} (hgd : o.guard = none) (t : TypeId) (x y : Operand)
    (ho : o.op = .makeSlice t x y) (e : TypeId) (n : Nat) (hx : a.eval x = .int .i64 n) (hy : a.eval y = .int .i64 n) (ht : P.underlying t = some (.slice e)) (hinfo : (P.info? e).map (fun i => (i.zero, i.size, i.bytes)) = some (some (.int .i64 0), 1, 8))
    (hn : n ≤ 64) (HB : Below B w0 w) (hB : B ≤ w.heap.size)
    (h : ∀ g w', Aside0 (w'.heap[g]? = some (.cells (fillC 0 n 0).toArray e (0, 0))) → B ≤ g → Aside0 (Below B w0 w') → wpList P ops Q rest (a.put o.dst (.slice (some ⟨g, 0, none⟩) n n)) w') : wpList P ops Q (o :: rest) a w := by
  obtain ⟨i, hi, h2⟩ := Option.map_eq_some_iff.1 hinfo
  simp only [Prod.mk.injEq] at h2
  refine wpList_plain hgd fun K hK => ?_
  have hrun := run_makeSlice (P := P) w t e i (.int .i64 0) ht hi h2.1 .i64 .i64 n n (by omega) (by omega) (by rw [h2.2.1]; simp; omega) (by rw [h2.2.2]; omega) (by omega)
  unfold Oper.wp
  simp only [Int.toNat_natCast] at hrun
  simp [execOp, ho, hx, hy, hrun, Result.andThen]
  refine hK _ _ (h _ _ ⟨?_⟩ hB ⟨below_then HB hB (below_alloc (Below.refl _ _) _)⟩)
  rw [heap_alloc_new, ← fillC_zero, h2.2.1]
  congr 2
  simp [madeCells]
  apply Array.ext
  · simp
  · intro j h1 h2
    simp [Value.cells, Nat.mod_one]
theorem one_cell {w : World} {ad : Addr} {x : Int} (h : w.cell? ad = some (.int .i64 x)) : ∀ (j : Nat) (v : Value), ([.int .i64 x] : List Value)[j]? = some v → w.cell? (ad.add j) = some v := by
  intro j v hv
  match j, hv with
  | 0, hv => simp at hv; subst hv; simpa [Addr.add] using h
theorem one_cell1 (x : Int) : ∀ v ∈ ([.int .i64 x] : List Value), v.oneCell' = true := by simp [Value.oneCell']
theorem cell_old {w w1 : World} {ad : Addr} {v : Value} (h : w.cell? ad = some v) (hb : Below w.heap.size w w1) : w1.cell? ad = some v := (hb.cell (World.block_lt_of_cell? w _ h)).trans h
theorem first_fill {w : World} {g n : Nat} {x : Int} (h : w.heap[g]? = some (.cells (splice (fillC 0 n 0) 0 [.int .i64 x]).toArray 3 (0, 0))) (hn : 1 ≤ n) : w.heap[g]? = some (.cells (fillC 1 n x).toArray 3 (0, 0)) := by
  have e := fillC_splice (n := 0) (N := n) x 1 (by omega)
  have e0 : fillC 0 n 0 = fillC 0 n x := by simp [fillC]
  rw [e0] at h
  simp only [List.replicate_succ, List.replicate_zero, Nat.zero_add] at e
  rw [e] at h
  exact h
theorem fill_cells {w : World} {g n k m : Nat} {x : Int} (h : w.heap[g]? = some (.cells (fillC m n x).toArray 3 (0, 0))) (hk : k ≤ m) : ∀ (j : Nat) (v : Value), (List.replicate k (Value.int .i64 x))[j]? = some v → w.drew.cell? ((⟨g, 0, none⟩ : Addr).add j) = some v := by
  intro j v hv
  rw [List.getElem?_replicate] at hv
  split at hv
  case isFalse => cases hv
  rename_i hj
  injection hv with hv
  subst hv
  have h2 := (below_drew (Below.refl w.heap.size w)).block g (blk_lt h)
  have h3 := blk_cell (h2.trans h) j
  have e : ((⟨g, 0, none⟩ : Addr).add j) = ⟨g, j, none⟩ := by simp [Addr.add]; exact fun h => h.symm
  rw [e, h3, List.getElem?_toArray, fillC_at x (by omega)]
theorem fill_one (k : Nat) (x : Int) : ∀ v ∈ List.replicate k (Value.int .i64 x), v.oneCell' = true := by
  intro v hv
  rw [List.eq_of_mem_replicate hv]
  rfl
theorem next_fill {w : World} {g n m k : Nat} {x : Int} (h : w.heap[g]? = some (.cells (splice (fillC m n x) m (List.replicate k (.int .i64 x))).toArray 3 (0, 0))) (hn : m + k ≤ n) : w.heap[g]? = some (.cells (fillC (m + k) n x).toArray 3 (0, 0)) := by
  rw [fillC_splice x k hn] at h
  exact h
theorem sum_small (m k n : Nat) (hn : n ≤ 64) (h : m + k ≤ n) : Value.int .i64 (IntKind.i64.wrap ((m : Int) + (k : Int))) = .int .i64 ((m + k : Nat) : Int) := by
  have e : IntKind.i64.wrap ((m : Int) + (k : Int)) = ((m + k : Nat) : Int) := by rw [IntKind.wrap_i64]; omega
  rw [e]
theorem R_fill {w : World} {g n base : Nat} {x : Int} (h : w.heap[g]? = some (.cells (fillC n n x).toArray 3 (0, 0))) (hb : base ≤ g) (hn : n ≤ 64) : Kd.R (Kd.int .i64) 3 w base (fun _ => True) (.slice (some ⟨g, 0, none⟩) n n) (List.replicate n x) := by
  rw [fillC_full] at h
  refine ⟨fun _ _ => trivial, List.replicate n (.int .i64 x), ⟨by simp [Kd.int, Kd.scalar], Or.inr ⟨g, n, (List.replicate n (.int .i64 x)).toArray, by simp, hb, h, by simp, by simp [maxLen]; omega, by simp [Kd.int, Kd.scalar], by simp [Kd.int, Kd.scalar]⟩⟩, by simp [Kd.int, Kd.scalar], fun j p hp => ?_⟩
  rw [List.getElem?_replicate] at hp
  split at hp
  case isFalse => cases hp
  injection hp with hp
  subst hp
  show ((List.replicate n (Value.int .i64 x)).drop (j * 1)).take 1 = [Value.int .i64 x]
  rw [List.drop_replicate, List.take_replicate]
  rw [show min 1 (n - j * 1) = 1 by omega]
  rfl
theorem sz3 : (Tryd.prog.info? 3).map (·.size) = some 1 := by kernel_rfl
set_option maxHeartbeats 4000000 in
set_option maxRecDepth 100000 in
theorem slices_Repeat_int.calls (A0 : Option Addr) (c0 : Nat) (l0 : List Int) (a1 : Int) (r : List Int) (w : World) (hr0 : Kd.C (Kd.int .i64) w A0 l0.length l0) (hc0 : l0.length ≤ c0) (h : slices_Repeat_int.f l0 a1 = some r) :
    Calls Tryd.prog 118 #[.slice A0 l0.length c0, .int .i64 a1] w fun e w' => ∃ v0_ : Value, e = .returned (v0_) ∧ Kd.R (Kd.int .i64) 3 w' w.heap.size (fun _ => True) v0_ r ∧ Below w.heap.size w w' := by
  unfold slices_Repeat_int.f at h
  split at h
  case isFalse => cases h
  rename_i hc
  obtain rfl := Option.some.inj h
  obtain ⟨hl, h1, h64⟩ := hc
  obtain ⟨x, rfl⟩ : ∃ x, l0 = [x] := List.length_eq_one_iff.1 hl
  obtain ⟨n, rfl⟩ : ∃ n : Nat, a1 = n := ⟨a1.toNat, by omega⟩
  obtain ⟨ad, rfl, hcell⟩ := Kd.at_int hr0 0 (by omega) (by simp)
  have hcx : w.cell? ad = some (.int .i64 x) := by simpa [Addr.add, rd] using hcell
  have t1 : decide ((n : Int) < 0) = false := decide_eq_false (by omega)
  have A1 := Aside0.mk (mul_small n (by omega))
  have n1 : 1 ≤ n := by omega
  have n64 : n ≤ 64 := by omega
  have t2 : decide ((n : Int) > 9223372036854775807) = false := decide_eq_false (by omega)
  clear hl h1 h64 h hr0 hcell
  simp only [List.length_singleton] at hc0 ⊢
  have HC := Aside0.mk hcx
  clear hcx
  go_enter Tryd.func118, Tryd.ntmps118
  go_wp2_with (first
    | (go_at_call 129; (refine (bits_Mul.calls 1 n 0 n _ A1.out).mono ?_); rintro e w' ⟨rfl, ⟨nd, rfl⟩⟩)
    | ((with_reducible refine gate_dst (N := 30) rfl ?_); apply wpList_makeInt (w0 := w) (B := w.heap.size) (n := n); (case hgd => rfl); (case ho => rfl); (case hx => rfl); (case hy => rfl); (case ht => exact Tryd.underlying22); (case hinfo => exact info3); (case hn => exact n64); (case HB => exact pw_below_drewN (Below.refl _ _) _); (case hB => exact (pw_below_drewN (Below.refl w.heap.size w) _).size); intro g w1 HG1 hBg HB1)
    | ((with_reducible refine gate_dst (N := 33) rfl ?_); apply wpList_copy_splice (w0 := w) (B := w.heap.size) (g := g) (off := 0) (cur := fillC 0 n 0) (cs := [.int .i64 x]) (t := 3) (elem := 3); (case hgd => rfl); (case ho => rfl); (case hu => exact Tryd.underlying22); (case hsz => exact sz3); (case hd => rfl); (case hs => rfl); (case hg => exact HG1.out); (case hn => exact (Nat.min_eq_left n1).symm); (case hpos => exact fun _ => ⟨rfl, ad, rfl, one_cell (cell_old HC.out HB1.out)⟩); (case hfit => simp only [fillC_len 0 (Nat.zero_le n)]; exact n1); (case h1 => exact one_cell1 x); (case hb => exact HB1.out); (case hBg => exact hBg); intro w2 HG2 HB2))
  have HG3 := Aside0.mk (first_fill HG2.out n1)
  have HB3 := Aside0.mk HB2
  clear HG2 HB2
  go_wp2
  go_loopg [8] n (fun kq v8 w' => ∃ m : Nat, v8 = .int .i64 m ∧ Aside0 (1 ≤ m ∧ m ≤ n ∧ n ≤ m + kq) ∧ Aside0 (w'.heap[g]? = some (.cells (fillC m n x).toArray 3 (0, 0))) ∧ Aside0 (Below w.heap.size w w'))
  case atStart => exact ⟨1, rfl, ⟨Nat.le_refl _, n1, by omega⟩, HG3, HB3⟩
  case round =>
    clear HG3 HB3 HG1 HB1
    obtain ⟨m, rfl, HM, HG, HB⟩ := hrel
    obtain ⟨m1, m2, m3⟩ := HM.out
    by_cases hmn : m < n
    · cases gk with
      | zero => exact absurd m3 (by omega)
      | succ k1 =>
        have c1 : decide ((m : Int) < (n : Int)) = true := decide_eq_true (by omega)
        have p1 : (0 ≤ (m : Int)) = True := eq_true (by omega)
        have p2 : ((m : Int) ≤ (n : Int)) = True := eq_true (by omega)
        have p3 : (n = m) = False := eq_false (by omega)
        obtain ⟨k, hk⟩ : ∃ k, Aside0 (k = min (n - m) m) := ⟨_, ⟨rfl⟩⟩
        have hk1 := Aside0.mk (show k ≤ n - m ∧ k ≤ m ∧ 1 ≤ k by have := hk.out; omega)
        have hkl := Aside0.mk (show (List.replicate k (Value.int .i64 x)).length = Nat.min m (n - m) by rw [List.length_replicate, hk.out, Nat.min_comm])
        have hkf := Aside0.mk (show m + (List.replicate k (Value.int .i64 x)).length ≤ (fillC m n x).length by rw [List.length_replicate, fillC_len x m2]; have := hk1.out; omega)
        clear HM
        go_wp2
        go_region_law (first | (apply step_copy_splice (w0 := w) (B := w.heap.size) (g := g) (off := m) (cur := fillC m n x) (cs := List.replicate k (.int .i64 x)) (t := 3) (elem := 3); (case hgd => rfl); (case ho => rfl); (case hu => exact Tryd.underlying22); (case hsz => exact sz3); (case hd => rfl); (case hs => rfl); (case hg => exact HG.out); (case hn => exact hkl.out); (case hpos => exact fun _ => ⟨rfl, _, rfl, fill_cells HG.out hk1.out.2.1⟩); (case hfit => exact hkf.out); (case h1 => exact fill_one k x); (case hb => exact below_drew HB.out); (case hBg => exact hBg); intro w3 HG4 HB4))
        have HG5 := Aside0.mk (next_fill HG4.out (show m + k ≤ n by have := hk1.out; omega))
        have HB5 := Aside0.mk HB4
        clear HG4 HB4
        go_wp2
        go_roundg k1
        case measure => omega
        case rel => exact ⟨m + k, sum_small m k n n64 (by have := hk1.out; omega), ⟨by omega, by have := hk1.out; omega, by have := hk1.out; omega⟩, HG5, HB5⟩
    · obtain rfl : m = n := by omega
      have c1 : decide ((m : Int) < (m : Int)) = false := decide_eq_false (by omega)
      go_wp2
      go_ret
      exact ⟨_, rfl, by simpa using R_fill HG.out hBg n64, HB.out⟩
end Go.Proofs.YtbplbbialcbceaaDoor.Q
