/- slices.Chunk over bytes: its iterator's contract. -/
import Derived.RangeFuncBox
import Derived.RangeFuncLeaves
import Derived.RangeFuncCalls
import Derived.Shelf.Abstract
import Derived.WalkKit
import Derived.OwnWalkIn
import Derived.TacticsInMore
import Derived.LoopNIn
import Derived.LoopIn
import Derived.Maps.AppendAt
import Derived.Test.YtbplbbialcbceaaDoorXlib
namespace Go.Proofs.YtbplbbialcbceaaDoor.Q
open Go.RowKit Go.Shelf Go.Proofs.YtbplbbialcbceaaDoorW.PrintWords Go.Proofs.YtbplbbialcbceaaDoorW.PrintLast Go.Proofs.YtbplbbialcbceaaDoorW.PrintMore
attribute [local go_sem] Oper.semAt_some
def Kp2 (s3 s4 : Nat) (W W' : World) : Prop := W'.heap[s3]? = W.heap[s3]? ∧ W'.heap[s4]? = W.heap[s4]?
theorem Kp2.trans {s3 s4 : Nat} {A B C : World} (h : Kp2 s3 s4 A B) (k : Kp2 s3 s4 B C) : Kp2 s3 s4 A C := ⟨k.1.trans h.1, k.2.trans h.2⟩
theorem Kp2.refl {s3 s4 : Nat} {A : World} : Kp2 s3 s4 A A := ⟨rfl, rfl⟩
/-- What has come when k rounds are over. -/
theorem range_snoc (k : Nat) : List.range (k + 1) = List.range k ++ [k] := List.range_succ
set_option maxRecDepth 100000 in
set_option maxHeartbeats 4000000 in
theorem chunk1_in (F : Fence) (n : Nat) (hf : F.fn 112) (hro : F.round = none) (hn : 1 ≤ n) (l Bs Bn b off len cap c m : Nat) (hc1 : 1 ≤ c) (hlen : len = m * c) (hsm : len ≤ 1000) (hcap : len ≤ cap) (J Jx : List Nat → World → Prop)
    (hJd : ∀ s W, J s W → J s W.drew)
    (hY : ∀ pre x W, J pre W → x < m → pre.length < m → YieldAt F (n - 1) Tryd.prog l #[.slice (some ⟨b, off + x * c, none⟩) c c] W fun e W' =>
      (e = .returned (.bool true) ∧ J (pre ++ [x]) W' ∧ Kp2 Bs Bn W W') ∨ (e = .returned (.bool false) ∧ Jx (pre ++ [x]) W'))
    (W : World) (hBs : W.heap[Bs]? = some (.cells #[.slice (some ⟨b, off, none⟩) len cap] 37 (0, 0))) (hBn : W.heap[Bn]? = some (.cells #[.int .i64 c] 3 (0, 0))) (h0 : J [] W) :
    CallsIn F n Tryd.prog 112 #[.func (.yield l) #[] #[], .pointer (some ⟨Bs, 0, none⟩), .pointer (some ⟨Bn, 0, none⟩)] W fun e W' => (∃ v, e = .returned v) ∧
      ((∃ ys, ys = List.range m ∧ J ys W') ∨ (∃ pre, (∃ k, k ≤ m ∧ pre = List.range k) ∧ Jx pre W')) := by
  refine callsIn_of_wp Tryd.func112 rfl hf ?_ hro
  simp only [Tryd.ntmps112, List.size_toArray, List.length_cons, List.length_nil, Nat.reduceAdd, Nat.reduceSub, Array.replicate_succ, Array.replicate_zero, List.push_toArray, List.append_toArray, List.nil_append, List.cons_append]
  gi_wp2
  have HL := Aside0.mk hlen
  clear hlen
  gi_loopw [4] (fun i wr => ∃ k q : Nat, Aside0 (k ≤ m ∧ q = k * c) ∧ i = .int .i64 (q : Int) ∧ J (List.range k) wr ∧ Kp2 Bs Bn W wr)
    (fun i _ => len - (intOf i).toNat)
  case atStart => exact ⟨0, 0, ⟨Nat.zero_le _, by simp⟩, by simp, h0, Kp2.refl⟩
  case round =>
    obtain ⟨k, q, HK, rfl, hJs, hnx⟩ := hrel
    have hs := hnx.1.trans hBs
    have hnn := hnx.2.trans hBn
    have cs : wr.cell? ⟨Bs, 0, none⟩ = some (.slice (some ⟨b, off, none⟩) len cap) := (blk_cell hs 0).trans rfl
    have cn : wr.cell? ⟨Bn, 0, none⟩ = some (.int .i64 c) := (blk_cell hnn 0).trans rfl
    by_cases hlt : k < m
    · have hkc : q + c ≤ len := by rw [HL.out, HK.out.2, ← Nat.succ_mul]; exact Nat.mul_le_mul_right c hlt
      have c1 : decide ((q : Int) < (len : Int)) = true := decide_eq_true (by omega)
      have hmx : Tryd.prog.follows .mixedOrders = true := by kernel_rfl
      obtain ⟨fn, tmps, assign, body, hy, hR⟩ := hY _ k wr.drew (hJd _ _ hJs) hlt (by rw [List.length_range]; exact hlt)
      rw [← HK.out.2] at hy
      have hm1 : min (c : Int) ((len - q : Nat) : Int) = (c : Int) := by omega
      have hm2 : ((q : Int) + (c : Int)).toNat - q = c := by omega
      have hm3 : cap ≠ q := by omega
      have HKC := Aside0.mk hkc
      have HR := Aside0.mk hR
      clear hs hnn hJs hkc hR hY
      gi_wp2
      gi_region
      all_goals gi_wp2
      all_goals (try go_bits)
      all_goals
        refine HR.out.mono ?_
        rintro e W3 (⟨rfl, hJ3, hk3⟩ | ⟨rfl, hJx3⟩)
        · have hnx3 : Kp2 Bs Bn W W3 := hnx.trans hk3
          have cn3 : W3.cell? ⟨Bn, 0, none⟩ = some (.int .i64 c) := (blk_cell (hnx3.2.trans hBn) 0).trans rfl
          gi_wp2
          go_roundw
          case rel => exact ⟨k + 1, q + c, ⟨by omega, by rw [HK.out.2, Nat.succ_mul]⟩, by simp, by rw [range_snoc]; exact hJ3, hnx3⟩
          case measure =>
            have := HKC.out
            simp [intOf]
            omega
        · gi_wp2
          refine bodyPost_ret (results_none rfl _ _ _) rfl ?_
          exact ⟨⟨_, rfl⟩, .inr ⟨_, ⟨k + 1, by omega, (range_snoc k).symm⟩, hJx3⟩⟩
    · have hkm : k = m := by have := HK.out.1; omega
      subst hkm
      have hql : q = len := by rw [HL.out, HK.out.2]
      subst hql
      have c1 : decide ((q : Int) < (q : Int)) = false := decide_eq_false (by omega)
      gi_wp2
      go_end0
      exact ⟨⟨_, rfl⟩, .inl ⟨_, rfl, hJs⟩⟩
end Go.Proofs.YtbplbbialcbceaaDoor.Q
