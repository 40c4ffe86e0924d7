/- Texts of this claim, joined. -/
import Derived.Test.YtcpeldgnabfdmaaGreatDoorJAreSameWords04
import Derived.RangeFuncBox
import Derived.RangeFuncLeaves
import Derived.RangeFuncCalls
import Derived.Shelf.Abstract
import Derived.WalkKit
import Derived.OwnWalkIn
import Derived.TacticsInMore
import Derived.LoopNIn
import Derived.LoopIn
import Derived.Maps.AppendAt
import Derived.Test.YtcpeldgnabfdmaaGreatDoorJAreSameWords01
import Derived.RangeFuncNested
import Derived.RangeFuncBound
import Derived.Test.YtcpeldgnabfdmaaGreatDoorJAreSameWords03
import Derived.Laws.BytesArg
set_option linter.unusedVariables false
set_option linter.unusedSimpArgs false
set_option linter.unusedSectionVars false
section
namespace Go.Proofs.YtcpeldgnabfdmaaGreatDoor.Q
open Go.RowKit Go.Proofs.YtcpeldgnabfdmaaGreatDoorW.PrintWords Go.Proofs.YtcpeldgnabfdmaaGreatDoorW.PrintLast Go.Proofs.YtcpeldgnabfdmaaGreatDoorW.PrintMore
set_option linter.unusedSectionVars false
def tiltW (w h : Nat) : List Nat → List Int → List Int
 | [], cs => cs
 | d :: l, cs => tiltW w h l (tiltC w h cs d)
section
variable {w h : Nat} (hw : w ≤ 7) (hh : h ≤ 7) (hs : w * h ≤ 36) (hw1 : 0 < w) (hh1 : 0 < h)
include hw hh hs hw1 hh1
theorem tiltW_len : ∀ (l : List Nat) (cs : List Int), (∀ d ∈ l, d < 4) → cs.length = w * h → (tiltW w h l cs).length = w * h
 | [], _, _, hn => hn
 | d :: l, cs, hl, hn => tiltW_len l _ (fun x hx => hl x (List.mem_cons_of_mem _ hx)) ((tiltC_len hw hh hs (hl d List.mem_cons_self)).trans hn)
theorem tiRun_l0 (s : ByteArray) (hb : s.size ≤ 40 ∧ ∀ (t : Nat) (ht : t < s.data.toList.length), isD s.data.toList[t] = true) : ∀ (m t : Nat) (cs : List Int), t + m = s.size → cs.length = w * h → Ev (fun k => spec_tiRun.l0 k s t w h cs) (w, h, tiltW w h ((s.data.toList.drop t).map dirN) cs)
 | 0, t, cs, ht, hn => by
  have hl := data_length s
  rw [List.drop_eq_nil_of_le (by omega)]
  refine Ev.step (Ev.const (o := some ((w : Int), (h : Int), cs)) rfl) fun k => ?_
  rw [spec_tiRun.l0, if_neg (by omega)]
 | m + 1, t, cs, ht, hn => by
  have hl := data_length s
  have htl : t < s.data.toList.length := by omega
  have hwt : wrap64 ((t : Int) + 1) = ((t + 1 : Nat) : Int) := by have := hb.1; rw [w64 (by omega) (by omega)]; omega
  have hd := hb.2 t htl
  have hd4 := dirN_lt s.data.toList[t]
  have ih := tiRun_l0 s hb m (t + 1) (tiltC w h cs (dirN s.data.toList[t])) (by omega) ((tiltC_len hw hh hs hd4).trans hn)
  have h1 := tiDir_ev (s.extract ((t : Nat) : Int).toNat (((t + 1 : Nat) : Int)).toNat)
  rw [dirI_one (cut_one s t (by omega)), if_pos hd] at h1
  rw [List.drop_eq_getElem_cons htl, List.map_cons]
  refine Ev.step (Ev.bind (f := fun k t103 => ((spec_tiTilt.f k w h cs t103).bind fun bt104 => (spec_tiRun.l0 k s ((t + 1 : Nat) : Int) bt104.1 bt104.2.1 bt104.2.2))) h1 (Ev.bind (f := fun k (bt104 : Int × Int × List Int) => (spec_tiRun.l0 k s ((t + 1 : Nat) : Int) bt104.1 bt104.2.1 bt104.2.2)) (tiTilt_ev hw hh hs hd4 hw1 hh1 hn) ih)) fun k => ?_
  rw [spec_tiRun.l0, if_pos (by omega), if_pos (by omega), hwt, if_pos (by omega), if_pos (by omega)]
theorem tiRun_ev {s : ByteArray} (hb : wordB s = true) {cs : List Int} (hn : cs.length = w * h) : Ev (fun k => spec_tiRun.f k w h cs s) (w, h, tiltW w h (s.data.toList.map dirN) cs) := by
 have h1 := tiRun_l0 hw hh hs hw1 hh1 s (wordB_parts hb) s.size 0 cs (by omega) hn
 rw [List.drop_zero] at h1
 exact h1
theorem tiltedAll_l0 (s : ByteArray) (hb : s.size ≤ 40 ∧ ∀ (t : Nat) (ht : t < s.data.toList.length), isD s.data.toList[t] = true) : ∀ (m t : Nat) (cs : List Int), t + m = s.size → cs.length = w * h → Ev (fun k => impl_tray_tiltedAll.l0 k (bytesOf s) (bytesOf s).length t w h cs) (w, h, tiltW w h ((s.data.toList.drop t).map dirN) cs)
 | 0, t, cs, ht, hn => by
  have hl := data_length s
  have hbl := bytesOf_length s
  rw [List.drop_eq_nil_of_le (by omega)]
  refine Ev.step (Ev.const (o := some ((w : Int), (h : Int), cs)) rfl) fun k => ?_
  rw [impl_tray_tiltedAll.l0, if_neg (by omega)]
 | m + 1, t, cs, ht, hn => by
  have hl := data_length s
  have hbl := bytesOf_length s
  have htl : t < s.data.toList.length := by omega
  have hwt : wrap64 ((t : Int) + 1) = ((t + 1 : Nat) : Int) := by have := hb.1; rw [w64 (by omega) (by omega)]; omega
  have hd := hb.2 t htl
  have hd4 := dirN_lt s.data.toList[t]
  have ih := tiltedAll_l0 s hb m (t + 1) (tiltC w h cs (dirN s.data.toList[t])) (by omega) ((tiltC_len hw hh hs hd4).trans hn)
  rw [List.drop_eq_getElem_cons htl, List.map_cons]
  refine Ev.step (Ev.bind (f := fun k (bt107 : Int × Int × List Int) => (impl_tray_tiltedAll.l0 k (bytesOf s) (bytesOf s).length ((t + 1 : Nat) : Int) bt107.1 bt107.2.1 bt107.2.2)) (tilted_ev hw hh hs hd4 hw1 hh1 hn) ih) fun k => ?_
  rw [impl_tray_tiltedAll.l0, if_pos (by omega), if_pos (by omega), if_pos (by omega), hwt, bytes_rd s t htl, ← (dirN_C hd).2]
  rfl
theorem tiltedAll_ev {s : ByteArray} (hb : wordB s = true) {cs : List Int} (hn : cs.length = w * h) : Ev (fun k => impl_tray_tiltedAll.f k w h cs s) (w, h, tiltW w h (s.data.toList.map dirN) cs) := by
 have h1 := tiltedAll_l0 hw hh hs hw1 hh1 s (wordB_parts hb) s.size 0 cs (by omega) hn
 rw [List.drop_zero] at h1
 refine Ev.congr h1 fun k => ?_
 unfold impl_tray_tiltedAll.f convB.f
 rw [if_pos (by have := (wordB_parts hb).1; omega), Option.bind_some]
 rfl
end
end Go.Proofs.YtcpeldgnabfdmaaGreatDoor.Q
end
section
namespace Go.Proofs.YtcpeldgnabfdmaaGreatDoor.Q
open Go.RowKit Go.Shelf Go.Proofs.YtcpeldgnabfdmaaGreatDoorW.PrintWords Go.Proofs.YtcpeldgnabfdmaaGreatDoorW.PrintLast Go.Proofs.YtcpeldgnabfdmaaGreatDoorW.PrintMore
attribute [local go_sem] Oper.semAt_some
def Kp2 (s3 s4 : Nat) (W W' : World) : Prop := W'.heap[s3]? = W.heap[s3]? ∧ W'.heap[s4]? = W.heap[s4]?
theorem Kp2.trans {s3 s4 : Nat} {A B C : World} (h : Kp2 s3 s4 A B) (k : Kp2 s3 s4 B C) : Kp2 s3 s4 A C := ⟨k.1.trans h.1, k.2.trans h.2⟩
theorem Kp2.refl {s3 s4 : Nat} {A : World} : Kp2 s3 s4 A A := ⟨rfl, rfl⟩
theorem range_snoc (k : Nat) : List.range (k + 1) = List.range k ++ [k] := List.range_succ
set_option maxRecDepth 100000 in
set_option maxHeartbeats 4000000 in
theorem chunk1_in (F : Fence) (n : Nat) (hf : F.fn 51) (hro : F.round = none) (hn : 1 ≤ n) (l Bs Bn b off len cap c m : Nat) (hc1 : 1 ≤ c) (hlen : len = m * c) (hsm : len ≤ 1000) (hcap : len ≤ cap) (J Jx : List Nat → World → Prop)
  (hJd : ∀ s W, J s W → J s W.drew)
  (hY : ∀ pre x W, J pre W → x < m → pre.length < m → YieldAt F (n - 1) Tryz.prog l #[.slice (some ⟨b, off + x * c, none⟩) c c] W fun e W' =>
   (e = .returned (.bool true) ∧ J (pre ++ [x]) W' ∧ Kp2 Bs Bn W W') ∨ (e = .returned (.bool false) ∧ Jx (pre ++ [x]) W'))
  (W : World) (hBs : W.heap[Bs]? = some (.cells #[.slice (some ⟨b, off, none⟩) len cap] 28 (0, 0))) (hBn : W.heap[Bn]? = some (.cells #[.int .i64 c] 3 (0, 0))) (h0 : J [] W) :
  CallsIn F n Tryz.prog 51 #[.func (.yield l) #[] #[], .pointer (some ⟨Bs, 0, none⟩), .pointer (some ⟨Bn, 0, none⟩)] W fun e W' => (∃ v, e = .returned v) ∧
   ((∃ ys, ys = List.range m ∧ J ys W') ∨ (∃ pre, (∃ k, k ≤ m ∧ pre = List.range k) ∧ Jx pre W')) := by
 refine callsIn_of_wp Tryz.func51 rfl hf ?_ hro
 simp only [Tryz.ntmps51, List.size_toArray, List.length_cons, List.length_nil, Nat.reduceAdd, Nat.reduceSub, Array.replicate_succ, Array.replicate_zero, List.push_toArray, List.append_toArray, List.nil_append, List.cons_append]
 gi_wp2
 have HL := Aside0.mk hlen
 clear hlen
 gi_loopw [4] (fun i wr => ∃ k q : Nat, Aside0 (k ≤ m ∧ q = k * c) ∧ i = .int .i64 (q : Int) ∧ J (List.range k) wr ∧ Kp2 Bs Bn W wr)
  (fun i _ => len - (intOf i).toNat)
 case atStart => exact ⟨0, 0, ⟨Nat.zero_le _, by simp⟩, by simp, h0, Kp2.refl⟩
 case round =>
  obtain ⟨k, q, HK, rfl, hJs, hnx⟩ := hrel
  have hs := hnx.1.trans hBs
  have hnn := hnx.2.trans hBn
  have cs : wr.cell? ⟨Bs, 0, none⟩ = some (.slice (some ⟨b, off, none⟩) len cap) := (blk_cell hs 0).trans rfl
  have cn : wr.cell? ⟨Bn, 0, none⟩ = some (.int .i64 c) := (blk_cell hnn 0).trans rfl
  by_cases hlt : k < m
  ·have hkc : q + c ≤ len := by rw [HL.out, HK.out.2, ← Nat.succ_mul]; exact Nat.mul_le_mul_right c hlt
   have c1 : decide ((q : Int) < (len : Int)) = true := decide_eq_true (by omega)
   have hmx : Tryz.prog.follows .mixedOrders = true := by kernel_rfl
   obtain ⟨fn, tmps, assign, body, hy, hR⟩ := hY _ k wr.drew (hJd _ _ hJs) hlt (by rw [List.length_range]; exact hlt)
   rw [← HK.out.2] at hy
   have hm1 : min (c : Int) ((len - q : Nat) : Int) = (c : Int) := by omega
   have hm2 : ((q : Int) + (c : Int)).toNat - q = c := by omega
   have hm3 : cap ≠ q := by omega
   have HKC := Aside0.mk hkc
   have HR := Aside0.mk hR
   clear hs hnn hJs hkc hR hY
   gi_wp2
   gi_region
   all_goals gi_wp2
   all_goals (try go_bits)
   all_goals
    refine HR.out.mono ?_
    rintro e W3 (⟨rfl, hJ3, hk3⟩ | ⟨rfl, hJx3⟩)
    ·have hnx3 : Kp2 Bs Bn W W3 := hnx.trans hk3
     have cn3 : W3.cell? ⟨Bn, 0, none⟩ = some (.int .i64 c) := (blk_cell (hnx3.2.trans hBn) 0).trans rfl
     gi_wp2
     go_roundw
     case rel => exact ⟨k + 1, q + c, ⟨by omega, by rw [HK.out.2, Nat.succ_mul]⟩, by simp, by rw [range_snoc]; exact hJ3, hnx3⟩
     case measure =>
      have := HKC.out
      simp [intOf]
      omega
    ·gi_wp2
     refine bodyPost_ret (results_none rfl _ _ _) rfl ?_
     exact ⟨⟨_, rfl⟩, .inr ⟨_, ⟨k + 1, by omega, (range_snoc k).symm⟩, hJx3⟩⟩
  ·have hkm : k = m := by have := HK.out.1; omega
   subst hkm
   have hql : q = len := by rw [HL.out, HK.out.2]
   subst hql
   have c1 : decide ((q : Int) < (q : Int)) = false := decide_eq_false (by omega)
   gi_wp2
   go_end0
   exact ⟨⟨_, rfl⟩, .inl ⟨_, rfl, hJs⟩⟩
end Go.Proofs.YtcpeldgnabfdmaaGreatDoor.Q
end
section
namespace Go.Proofs.YtcpeldgnabfdmaaGreatDoor.Q
open Go.RowKit Go.Shelf Go.Proofs.YtcpeldgnabfdmaaGreatDoorW.PrintWords Go.Proofs.YtcpeldgnabfdmaaGreatDoorW.PrintLast Go.Proofs.YtcpeldgnabfdmaaGreatDoorW.PrintMore
attribute [local go_sem] Oper.semAt_some
set_option maxRecDepth 100000 in
set_option maxHeartbeats 4000000 in
theorem chunk_in (F : Fence) (n : Nat) (hf : F.fn 34) (hro : F.round = none) (A : Option Addr) (len cap : Nat) (c : Int) (hc : 1 ≤ c) (w : World) :
  CallsIn F n Tryz.prog 34 #[.slice A len cap, .int .i64 c] w fun e w' => e = .returned (.func (.func 51) #[] #[.pointer (some ⟨w.heap.size, 0, none⟩), .pointer (some ⟨w.heap.size + 1, 0, none⟩)]) ∧
   w' = (w.alloc (.cells #[.slice A len cap] 28)).alloc (.cells #[.int .i64 c] 3) := by
 refine callsIn_of_wp Tryz.func34 rfl hf ?_ hro
 simp only [Tryz.ntmps34, List.size_toArray, List.length_cons, List.length_nil, Nat.reduceAdd, Nat.reduceSub, Array.replicate_succ, Array.replicate_zero, List.push_toArray, List.append_toArray, List.nil_append, List.cons_append]
 have c1 : decide (c < 1) = false := decide_eq_false (by omega)
 gi_wp2
 go_ret
 exact ⟨rfl, rfl⟩
theorem chunk_stops (F : Fence) (n : Nat) (hf : F.fn 51) (hro : F.round = none) (hn : 1 ≤ n) (Bs Bn b off len cap c m : Nat) (hc1 : 1 ≤ c) (hlen : len = m * c) (hsm : len ≤ 1000) (hcap : len ≤ cap) (w : World)
  (hBs : w.heap[Bs]? = some (.cells #[.slice (some ⟨b, off, none⟩) len cap] 28 (0, 0))) (hBn : w.heap[Bn]? = some (.cells #[.int .i64 c] 3 (0, 0))) :
  SeqStopsK F n Tryz.prog 51 #[.pointer (some ⟨Bs, 0, none⟩), .pointer (some ⟨Bn, 0, none⟩)] (fun x : Fin m => #[Value.slice (some ⟨b, off + x.val * c, none⟩) c c]) (Kp2 Bs Bn) (fun ys => ys.map Fin.val = List.range m) (fun _ => True) m w := fun l J Jx W hW hJ _ hY h0 => by
 refine (chunk1_in F n hf hro hn l Bs Bn b off len cap c m hc1 hlen hsm hcap (fun pre W => ∃ ys : List (Fin m), ys.map Fin.val = pre ∧ J ys W) (fun pre W => ∃ ys : List (Fin m), Jx ys W) ?_ ?_ W ((hW.block Bs (blk_lt hBs)).trans hBs) ((hW.block Bn (blk_lt hBn)).trans hBn) ⟨[], rfl, h0⟩).mono ?_
 ·rintro s W1 ⟨ys, e, hs⟩
  exact ⟨ys, e, hJ ys W1 W1.drew none hs ⟨rfl, rfl, rfl, Nat.le_refl _, fun _ _ _ => rfl⟩ (fun r e => by cases e)⟩
 ·rintro pre x W1 ⟨ys, rfl, hs⟩ hx hl
  obtain ⟨fn, tmps, assign, body, hy, hR⟩ := hY ys ⟨x, hx⟩ W1 hs (by rw [List.length_map] at hl; exact hl)
  refine ⟨fn, tmps, assign, body, hy, hR.mono ?_⟩
  rintro e W' (⟨rfl, h1, h2⟩ | ⟨rfl, h1⟩)
  ·exact .inl ⟨rfl, ⟨_, by rw [List.map_append]; rfl, h1⟩, h2⟩
  ·exact .inr ⟨rfl, _, h1⟩
 ·rintro e W' ⟨he, ⟨ys, rfl, zs, e2, hj⟩ | ⟨pre, _, zs, hj⟩⟩
  ·exact ⟨he, .inl ⟨zs, e2, hj⟩⟩
  ·exact ⟨he, .inr ⟨zs, trivial, hj⟩⟩
def rowS (l : List Int) (c k : Nat) : ByteArray := strOfNums ((l.drop (k * c)).take c)
def impl_tray_text.f (w h : Int) (l : List Int) : Option ByteArray :=
 if 1 ≤ w ∧ 1 ≤ l.length ∧ l.length ≤ 1000 ∧ l.length = l.length / w.toNat * w.toNat then strings_Join.f ((List.range (l.length / w.toNat)).map (rowS l w.toNat)) ⟨#[47]⟩ else none
theorem row_len (l : List Int) (c k m : Nat) (hl : l.length = m * c) (hk : k < m) : ((l.drop (k * c)).take c).length = c := by
 rw [List.length_take, List.length_drop, hl]
 have : k * c + c ≤ m * c := by rw [← Nat.succ_mul]; exact Nat.mul_le_mul_right c hk
 omega
theorem row_at (l : List Int) (c k i : Nat) (hi : i < c) : ((l.drop (k * c)).take c).getD i 0 = l.getD (k * c + i) 0 := by
 rw [List.getD_eq_getElem?_getD, List.getElem?_take, if_pos hi, List.getElem?_drop, List.getD_eq_getElem?_getD]
theorem five {w X : World} {A B C D E : Obj} (h : X = ((((w.alloc A).alloc B).alloc C).alloc D).alloc E) : X.heap.size = w.heap.size + 5 ∧ Below w.heap.size w X ∧ X.heap[w.heap.size]? = some A ∧ X.heap[w.heap.size + 1]? = some B ∧ X.heap[w.heap.size + 1 + 1]? = some C ∧ X.heap[w.heap.size + 1 + 1 + 1]? = some D ∧ X.heap[w.heap.size + 1 + 1 + 1 + 1]? = some E := by
 subst h
 have g1 : ∀ (W : World) (o : Obj) (i : Nat) (x : Obj), W.heap[i]? = some x → (W.alloc o).heap[i]? = some x := fun W o i x hx => (Below.heap_alloc W o i (blk_lt hx)).trans hx
 have n1 := World.alloc_heap_new w A
 have n2 := World.alloc_heap_new (w.alloc A) B
 have n3 := World.alloc_heap_new ((w.alloc A).alloc B) C
 have n4 := World.alloc_heap_new (((w.alloc A).alloc B).alloc C) D
 have n5 := World.alloc_heap_new ((((w.alloc A).alloc B).alloc C).alloc D) E
 simp only [World.size_alloc] at n2 n3 n4 n5
 exact ⟨by simp only [World.size_alloc], ((((((Below.refl _ w).alloc (Nat.le_refl _) _).alloc (by simp only [World.size_alloc]; omega) _).alloc (by simp only [World.size_alloc]; omega) _).alloc (by simp only [World.size_alloc]; omega) _).alloc (by simp only [World.size_alloc]; omega) _), g1 _ _ _ _ (g1 _ _ _ _ (g1 _ _ _ _ (g1 _ _ _ _ n1))), g1 _ _ _ _ (g1 _ _ _ _ (g1 _ _ _ _ n2)), g1 _ _ _ _ (g1 _ _ _ _ n3), g1 _ _ _ _ n4, n5⟩
set_option maxRecDepth 100000 in
set_option maxHeartbeats 8000000 in
theorem text_in (n : Nat) (hn : 3 ≤ n) (a0_0 a0_1 : Int) (b off cap : Nat) (l : List Int) (c m : Nat) (r : ByteArray) (w : World) (hb : b < w.heap.size) (hcell : ∀ j, j < l.length → w.cell? ⟨b, off + j, none⟩ = some (.int .u8 (l.getD j 0))) (hcap : l.length ≤ cap) (hc1 : 1 ≤ c) (h00 : a0_0 = c) (hl : l.length = m * c) (hsm : l.length ≤ 1000)
  (hj : strings_Join.f ((List.range m).map (rowS l c)) ⟨#[47]⟩ = some r) :
  CallsIn Fence.wide n Tryz.prog 18 #[.agg #[.int .i64 a0_0, .int .i64 a0_1, .slice (some ⟨b, off, none⟩) l.length cap]] w fun e w' => e = .returned (.string r) ∧ Below w.heap.size w w' := by
 have hro : Fence.wide.round = none := rfl
 have h1 : 1 ≤ n := by omega
 refine callsIn_of_wp_marks Tryz.func18 rfl trivial ?_ hro
 simp only [Tryz.ntmps18, List.size_toArray, List.length_cons, List.length_nil, Nat.reduceAdd, Nat.reduceSub, Array.replicate_succ, Array.replicate_zero, List.push_toArray, List.append_toArray, List.nil_append, List.cons_append]
 have hu := Tryz.underlying36
 subst h00
 have HL := Aside0.mk hl
 have HCL := Aside0.mk hcell
 have HJ := Aside0.mk hj
 clear hl hcell hj
 gi_wp2_with (refine ⟨trivial, ?_⟩; gi_at_call 34; refine (chunk_in Fence.wide (n - 1) trivial hro _ _ _ _ (by omega) _).mono ?_; rintro e w' ⟨he, hw⟩; simp only [World.size_alloc] at he; subst he; (have HW := Aside0.mk hw); clear hw)
 obtain ⟨hsz, hB0, bA, bB, bC, bD, bE⟩ := five HW.out
 clear HW
 have hI : OwnFrom w'.heap.size (fun (pre : List (Fin m)) W => (∃ v, Boxed W (w.heap.size + 1 + 1) 50 v ∧ W.ownsRow w.heap.size 9 1 v pre.length (pre.map fun k => Value.string (rowS l c k.val)) ∧ True) ∧ (Boxed W (w.heap.size + 1 + 1 + 1) 28 (.slice (some ⟨b, off, none⟩) l.length cap) ∧ Boxed W (w.heap.size + 1 + 1 + 1 + 1) 3 (.int .i64 c)) ∧ Below w.heap.size w W) :=
  OwnFrom.and (Own.from (holdsRow_own w.heap.size (w.heap.size + 1 + 1) 50 9 1 (fun pre : List (Fin m) => pre.length) (fun pre => pre.map fun k => Value.string (rowS l c k.val)) (fun _ _ => True)) _)
   (OwnFrom.and (OwnFrom.and (Own.from (boxed_own (w.heap.size + 1 + 1 + 1) 28 (fun _ : List (Fin m) => Value.slice (some ⟨b, off, none⟩) l.length cap)) _) (Own.from (boxed_own (w.heap.size + 1 + 1 + 1 + 1) 3 (fun _ : List (Fin m) => Value.int .i64 c)) _)) (ownFrom_below (Nat.le_refl _) (by omega)))
 have row0 : w'.ownsRow w.heap.size 9 1 (.slice (some ⟨w.heap.size + 1, 0, none⟩) 0 0) 0 [] := ⟨rfl, .inr ⟨w.heap.size + 1, 0, #[], rfl, by omega, bB, Nat.le_refl _, Nat.zero_le _, rfl, rfl⟩⟩
 refine wpIn_rangeFunc_ownG hro h1 (gf := 51) (lb := #[.pointer (some ⟨w.heap.size + 1 + 1 + 1, 0, none⟩), .pointer (some ⟨w.heap.size + 1 + 1 + 1 + 1, 0, none⟩)]) rfl trivial (enters_of Tryz.func51 (by kernel_rfl) rfl)
  (chunk_stops Fence.wide (n - 1) trivial hro (by omega) _ _ b off l.length cap c m hc1 HL.out hsm hcap w' bD bE) Kp2.trans (fun W i o o' hi _ _ _ => ⟨World.putObj_heap_other (fun e => by omega), World.putObj_heap_other (fun e => by omega)⟩) (Below.refl _ _) (fun _ => rfl)
  _ (fun _ _ _ => False) hI (fun _ _ _ _ _ hs _ _ => hs) ⟨⟨_, bC, row0, trivial⟩, ⟨bD, bE⟩, hB0⟩
  (fun x => { tmps := #[.agg #[.int .i64 c, .int .i64 a0_1, .slice (some ⟨b, off, none⟩) l.length cap], .pointer (some ⟨w.heap.size, 0, none⟩), .string ⟨#[]⟩, .pointer (some ⟨w.heap.size + 1 + 1, 0, none⟩), .slice (some ⟨b, off + x.val * c, none⟩) c c, .slice (some ⟨w.heap.size + 1, 0, none⟩) 0 0, .pointer (some ⟨w.heap.size, 2, none⟩), .slice (some ⟨b, off, none⟩) l.length cap, .pointer (some ⟨w.heap.size, 0, none⟩), .int .i64 c, .func (.func 51) #[] #[.pointer (some ⟨w.heap.size + 1 + 1 + 1, 0, none⟩), .pointer (some ⟨w.heap.size + 1 + 1 + 1 + 1, 0, none⟩)], .slice (some ⟨b, off + x.val * c, none⟩) c c, undef, undef, undef, undef, undef, undef, undef], defers := [] }) ?assign ?body ?done ?stop
 case assign =>
  intro i x W K hK
  gi_wp2
  exact hK
 case body =>
  rintro i pre x W ⟨⟨v, hv, hrow, _⟩, ⟨hD, hE⟩, hB⟩ hlt
  have hc := hv.cell
  have hrl := row_len l c x.val m HL.out x.isLt
  have hcv := run_convert_bytes_arg (P := Tryz.prog) W 28 5 Tryz.underlying28 Tryz.underlying5 b (off + x.val * c) c c ((l.drop (x.val * c)).take c) hrl (fun j hj => by
   rw [row_at l c x.val j hj, Nat.add_assoc]
   exact (hB.cell (p := ⟨b, off + (x.val * c + j), none⟩) hb).trans (HCL.out (x.val * c + j) (by
    rw [HL.out]
    have : x.val * c + c ≤ m * c := by rw [← Nat.succ_mul]; exact Nat.mul_le_mul_right c x.isLt
    omega))) 9 Tryz.underlying9
  rw [show strOfNums ((l.drop (x.val * c)).take c) = rowS l c x.val from rfl] at hcv
  obtain ⟨i0, hi, hz0, hz1, hz2⟩ := info_parts info9
  have hpl : pre.length + 1 ≤ 1000 := by
   have : m ≤ m * c := Nat.le_mul_of_pos_right m hc1
   have := HL.out
   omega
  have HD := Aside0.mk hD
  have HE := Aside0.mk hE
  clear hD hE hrl
  gi_wp2_with (gi_at_builtin; refine wpListIn_append_own _ rfl _ _ 50 rfl w.heap.size 9 i0 (.string ⟨#[]⟩) 1 16 Tryz.underlying50 hi hz0 hz1 hz2 rfl (by decide) _ _ _ rfl (hrow.alloc _) ⟨W.heap.size, 0, none⟩ 1 1 [.string (rowS l c x.val)] rfl rfl (cell_one_new _ _ _) (by simp [Value.oneCell']) (by simp [maxLen]; omega) (by omega) (by have := hB.size; simp; omega) ?_; intro v' w1 hown' hgrow _; obtain ⟨g', cap', rfl⟩ := ownsRow_succ hown'; obtain ⟨hv1, hv2, hr2, hk2, hb2⟩ := hv.appended (by decide) hrow hB.size (by omega) hown' hgrow; have hc1 := hv1.cell; have hf1 := hv1.frozen)
  have hD2 := ((HD.out.alloc (.cells #[.string (rowS l c x.val)] 9)).kept hgrow (HD.out.not_row (by decide) hrow)).other (B' := w.heap.size + 1 + 1) (by omega) (.slice (some ⟨g', 0, none⟩) (pre.length + 1) cap')
  have hE2 := ((HE.out.alloc (.cells #[.string (rowS l c x.val)] 9)).kept hgrow (HE.out.not_row (by decide) hrow)).other (B' := w.heap.size + 1 + 1) (by omega) (.slice (some ⟨g', 0, none⟩) (pre.length + 1) cap')
  exact ⟨hk2.from _, ⟨hD2.trans HD.out.symm, hE2.trans HE.out.symm⟩, ⟨_, hv2, by simpa using hr2, trivial⟩, ⟨hD2, hE2⟩, hB.trans hb2⟩
 case done =>
  rintro D ys W hD hS ⟨⟨v, hv, hrow, _⟩, _, hB⟩ hK
  have hc := hv.cell
  have hrows : (ys.map fun k => Value.string (rowS l c k.val)) = ((List.range m).map (rowS l c)).map Value.string := by
   rw [← hS, List.map_map, List.map_map]
   rfl
  have hyl : ys.length = ((List.range m).map (rowS l c)).length := by
   have := congrArg List.length hS
   simpa using this
  rw [hrows, hyl] at hrow
  have hjn := HJ.out
  generalize (List.range m).map (rowS l c) = L at hrow hjn
  have HJ2 := Aside0.mk hjn
  clear HJ hjn
  have hR : Kd.R Kd.string 9 W w.heap.size (fun _ => True) v L := Kd.R_of_own (enc := Value.string) hrow (fun _ _ => trivial)
  obtain ⟨A, cp, rfl, hlc, hC⟩ := Kd.R_reads hR
  have HK := Aside0.mk hK
  have HB := Aside0.mk hB
  have HCC := Aside0.mk hC
  have HLC := Aside0.mk hlc
  clear hrows hyl hrow hR hK hB hC hlc hv hS
  gi_wp2_with (refine ⟨trivial, ?_⟩; gi_at_call 31; refine (callsIn_wide.2 (strings_Join.calls A cp L ⟨#[47]⟩ r _ HCC.out HLC.out HJ2.out)).mono ?_; rintro e W2 ⟨rfl, hb2⟩)
  have hK2 := (hb2.block D (blk_lt HK.out)).trans HK.out
  refine ⟨by simp, .inl ⟨_, _, rfl, run_takeDeferred hK2, ?_⟩⟩
  exact ⟨_, results_tmp rfl _ _ _, rfl, (below_then HB.out HB.out.size hb2).trans (belowK_b (w := w) (Nat.le_refl _) W2 D _ _ (by omega) hK2 rfl rfl)⟩
 case stop =>
  rintro D c' pre W _ _ h _
  exact h.elim
theorem impl_tray_text.calls (a0_0 a0_1 : Int) (A0_2 : Option Addr) (c0_2 : Nat) (l0_2 : List Int) (r : ByteArray) (w : World) (hr0_2 : Kd.C (Kd.int .u8) w A0_2 l0_2.length l0_2) (hc0_2 : l0_2.length ≤ c0_2) (h : impl_tray_text.f a0_0 a0_1 l0_2 = some r) :
  Calls Tryz.prog 18 #[.agg #[.int .i64 a0_0, .int .i64 a0_1, .slice A0_2 l0_2.length c0_2]] w fun e w' => e = .returned (.string r) ∧ Below w.heap.size w w' := by
 unfold impl_tray_text.f at h
 split at h
 case isFalse => cases h
 rename_i hc
 obtain ⟨h1, h2, h3, h4⟩ := hc
 obtain ⟨b, off, rfl, hb, hcell⟩ := bytes_at hr0_2 h2
 exact callsIn_wide.1 (text_in 3 (Nat.le_refl _) a0_0 a0_1 b off c0_2 l0_2 a0_0.toNat (l0_2.length / a0_0.toNat) r w hb hcell hc0_2 (by omega) (by omega) h4 h3 h)
end Go.Proofs.YtcpeldgnabfdmaaGreatDoor.Q
end
section
namespace Go.Proofs.YtcpeldgnabfdmaaGreatDoor.Q
set_option linter.unusedSectionVars false
open Go.RowKit Go.Proofs.YtcpeldgnabfdmaaGreatDoorW.PrintWords Go.Proofs.YtcpeldgnabfdmaaGreatDoorW.PrintLast Go.Proofs.YtcpeldgnabfdmaaGreatDoorW.PrintMore
theorem text_val (w h : Nat) (l : List Int) (hw : 1 ≤ w) (hh : 1 ≤ h) (hs : w * h ≤ 36) (hn : l.length = w * h) : impl_tray_text.f w h l = some (tx l w h) := by
 have hd : l.length / w = h := by rw [hn, Nat.mul_div_cancel_left h (by omega)]
 unfold impl_tray_text.f
 have h1 : 1 ≤ w * h := Nat.mul_pos hw hh
 rw [Int.toNat_natCast, hd, if_pos ⟨by omega, by omega, by omega, by rw [hn, Nat.mul_comm]⟩]
 have h2 : ((List.range h).map (rowS l w)).map (·.data.toList) = (List.range h).map (rowL l w) := by
  rw [List.map_map]
  rfl
 have h4 : h ≤ w * h := Nat.le_mul_of_pos_left h hw
 have h5 := txL_len l w h
 have h6 : h * (w + 1) ≤ 72 := by rw [Nat.mul_add, Nat.mul_one, Nat.mul_comm]; omega
 have h7 : Lib.join (((List.range h).map (rowS l w)).map (·.data.toList)) (⟨#[47]⟩ : ByteArray).data.toList = txL l w h := by
  rw [h2]
  exact jn_join _
 unfold strings_Join.f
 rw [h7, List.length_map, List.length_range, if_pos ⟨by omega, by omega⟩]
 rfl
end Go.Proofs.YtcpeldgnabfdmaaGreatDoor.Q
end
section
namespace Go.Proofs.YtcpeldgnabfdmaaGreatDoor.Q
open Go.RowKit Go.Proofs.YtcpeldgnabfdmaaGreatDoorW.PrintWords Go.Proofs.YtcpeldgnabfdmaaGreatDoorW.PrintLast Go.Proofs.YtcpeldgnabfdmaaGreatDoorW.PrintMore
attribute [local go_sem] max2_int min2_int max_two min_two max_three min_three max_four min_four
set_option linter.unusedVariables false
set_option linter.unusedSimpArgs false
def impl_TiltWord.j0 : Nat → ByteArray → ByteArray → Bool → Option (ByteArray × Bool)
 | 0, _, _, _ => none
 | k + 1, x0, x1, x13 => if x13 = true then (some ((⟨#[]⟩ : ByteArray), false)) else ((impl_read.f x0).bind fun bt103 => ((impl_tray_tiltedAll.f k bt103.1 bt103.2.1 bt103.2.2 x1).bind fun bt108 => ((impl_tray_text.f bt108.1 bt108.2.1 bt108.2.2).bind fun t113 => (some (t113, true)))))
def impl_TiltWord.f (k : Nat) (a0 : ByteArray) (a1 : ByteArray) : Option (ByteArray × Bool) := (impl_IsTray.f k a0).bind fun t101 => (if t101 = true then ((impl_IsWord.f a1).bind fun t102 => (impl_TiltWord.j0 k a0 a1 (!t102))) else (impl_TiltWord.j0 k a0 a1 true))
set_option maxHeartbeats 8000000 in
set_option maxRecDepth 100000 in
theorem impl_TiltWord.calls (k : Nat) (a0 : ByteArray) (a1 : ByteArray) (r1 : ByteArray) (r2 : Bool) (w : World) (hG : GoodW w) (h : impl_TiltWord.f k a0 a1 = some (r1, r2)) :
  Calls Tryz.prog 9 #[.string a0, .string a1] w fun e w' => e = .returned (.tuple #[.string r1, .bool r2]) ∧ Below w.heap.size w w' := by
 have HG := Aside0.mk hG
 clear hG
 have HB := Aside0.mk (Below.refl w.heap.size w)
 have H : ((impl_IsTray.f k a0).bind fun t101 => (if t101 = true then ((impl_IsWord.f a1).bind fun t102 => (impl_TiltWord.j0 k a0 a1 (!t102))) else (impl_TiltWord.j0 k a0 a1 true))) = some (r1, r2) := h
 clear h
 have HC3 := Aside0.mk H
 clear H
 go_enter Tryz.func9, Tryz.ntmps9
 go_upto_region 1 with (fail)
 go_cut [13] (fun v13 wc => ∃ (kq : Nat) (x13_2 : Bool), v13 = .bool x13_2 ∧ Aside0 (impl_TiltWord.j0 kq a0 a1 x13_2 = some (r1, r2)) ∧ Aside0 (kq ≤ k) ∧ Aside0 (Below w.heap.size w wc))
 case first =>
  have H := HC3.out
  clear HC3
  replace H := Option.bind_eq_some_iff.mp H
  obtain ⟨t101, A40, H⟩ := H
  replace H : (if t101 = true then ((impl_IsWord.f a1).bind fun t102 => (impl_TiltWord.j0 k a0 a1 (!t102))) else (impl_TiltWord.j0 k a0 a1 true)) = some (r1, r2) := H
  have A4 := Aside0.mk A40
  clear A40
  by_cases c5 : t101 = true
  ·subst c5
   have H1 : ((impl_IsWord.f a1).bind fun t102 => (impl_TiltWord.j0 k a0 a1 (!t102))) = some (r1, r2) := by rw [if_pos rfl] at H; exact H
   clear H
   have H := H1
   clear H1
   replace H := Option.bind_eq_some_iff.mp H
   obtain ⟨t102, A60, H⟩ := H
   replace H : (impl_TiltWord.j0 k a0 a1 (!t102)) = some (r1, r2) := H
   have A6 := Aside0.mk A60
   clear A60
   have H' := Aside0.mk H
   clear H
   go_wp2_with (first | ((with_reducible refine gate_callee (f := 22) rfl ?_); refine gcall (some 7) Tryz.func22 #[.string a0] rfl ?_; (with_reducible refine (impl_IsTray.calls k a0 true _ ?side1 A4.out).mono ?_); (case side1 => (refine GoodW.below HG.out ?_); exact bel HB); rintro e w7 ⟨rfl, hb⟩; refine ⟨_, rfl, ?_⟩; have n0_ := Aside0.mk (below_step (bel HB) hb); clear HB; have HB := n0_; clear n0_; (try clear hb); (try clear hb2); (try clear hk); (try clear hi)) | (go_at_call 23; (with_reducible refine (impl_IsWord.calls a1 t102 _ A6.out).mono ?_); rintro e w8 ⟨rfl, hb⟩; have n0_ := Aside0.mk (below_step (bel HB) hb); clear HB; have HB := n0_; clear n0_; (try clear hb); (try clear hb2); (try clear hk); (try clear hi)))
   go_meet
   case rel => exact ⟨_, (!t102), (by first | rfl | (simp; done) | (simp [*]; done)), H', ⟨by first | omega | exact Nat.le_refl _⟩, ⟨bel HB⟩⟩
  ·replace c5 := Bool.eq_false_iff.mpr c5
   subst c5
   have H1 : (impl_TiltWord.j0 k a0 a1 true) = some (r1, r2) := by rw [if_neg (show ¬ (false = true) by decide)] at H; exact H
   clear H
   have H := H1
   clear H1
   have H' := Aside0.mk H
   clear H
   go_wp2_with (first | ((with_reducible refine gate_callee (f := 22) rfl ?_); refine gcall (some 7) Tryz.func22 #[.string a0] rfl ?_; (with_reducible refine (impl_IsTray.calls k a0 false _ ?side1 A4.out).mono ?_); (case side1 => (refine GoodW.below HG.out ?_); exact bel HB); rintro e w9 ⟨rfl, hb⟩; refine ⟨_, rfl, ?_⟩; have n0_ := Aside0.mk (below_step (bel HB) hb); clear HB; have HB := n0_; clear n0_; (try clear hb); (try clear hb2); (try clear hk); (try clear hi)))
   go_meet
   case rel => exact ⟨_, (true), (by first | rfl | (simp; done) | (simp [*]; done)), H', ⟨by first | omega | exact Nat.le_refl _⟩, ⟨bel HB⟩⟩
 case rest =>
  clear HC3
  try clear c2
  try clear p2
  try clear c5
  try clear c9
  obtain ⟨kq, x13_2, rfl, HA, HJ2, HB⟩ := hcut
  cases kq with
  | zero => exact absurd HA.out (by simp [impl_TiltWord.j0])
  | succ kj2 =>
   have H := HA.out
   clear HA
   simp only [impl_TiltWord.j0] at H
   by_cases c10 : x13_2 = true
   ·subst c10
    have H1 : (some ((⟨#[]⟩ : ByteArray), false)) = some (r1, r2) := by rw [if_pos rfl] at H; exact H
    clear H
    have H := H1
    clear H1
    simp only [Option.some.injEq, Prod.mk.injEq] at H
    obtain ⟨rfl, rfl⟩ := H
    go_wp2
    go_ret2
    exact ⟨by first | rfl | (simp [errW_none, errW_some] <;> rfl) | (simp [*, errW_none, errW_some] <;> rfl), bel HB⟩
   ·replace c10 := Bool.eq_false_iff.mpr c10
    subst c10
    have H1 : ((impl_read.f a0).bind fun bt103 => ((impl_tray_tiltedAll.f kj2 bt103.1 bt103.2.1 bt103.2.2 a1).bind fun bt108 => ((impl_tray_text.f bt108.1 bt108.2.1 bt108.2.2).bind fun t113 => (some (t113, true))))) = some (r1, r2) := by rw [if_neg (show ¬ (false = true) by decide)] at H; exact H
    clear H
    have H := H1
    clear H1
    replace H := Option.bind_eq_some_iff.mp H
    obtain ⟨⟨t103, t104, t105⟩, A110, H⟩ := H
    replace H : ((impl_tray_tiltedAll.f kj2 t103 t104 t105 a1).bind fun bt108 => ((impl_tray_text.f bt108.1 bt108.2.1 bt108.2.2).bind fun t113 => (some (t113, true)))) = some (r1, r2) := H
    have A11 := Aside0.mk A110
    clear A110
    replace H := Option.bind_eq_some_iff.mp H
    obtain ⟨⟨t108, t109, t110⟩, A120, H⟩ := H
    replace H : ((impl_tray_text.f t108 t109 t110).bind fun t113 => (some (t113, true))) = some (r1, r2) := H
    have A12 := Aside0.mk A120
    clear A120
    replace H := Option.bind_eq_some_iff.mp H
    obtain ⟨t113, A130, H⟩ := H
    replace H : (some (t113, true)) = some (r1, r2) := H
    have A13 := Aside0.mk A130
    clear A130
    simp only [Option.some.injEq, Prod.mk.injEq] at H
    obtain ⟨rfl, rfl⟩ := H
    go_wp2_with (first | ((with_reducible refine gate_callee (f := 16) rfl ?_); refine gcall (some 15) Tryz.func16 #[.string a0] rfl ?_; (with_reducible refine (impl_read.calls a0 t103 t104 t105 _ ?side1 A11.out).mono ?_); (case side1 => (refine GoodW.below HG.out ?_); exact bel HB); rintro e w14 ⟨v106, rfl, ho0, hb⟩; refine ⟨_, rfl, ?_⟩; have n0_ := Aside0.mk (Kd.V_lower (Kd.V_mono (ok' := fun k_ => True) ho0 (fun k_ hk_ => trivial)) (below_size (bel HB))); have n1_ := Aside0.mk (below_step (bel HB) hb); clear HB; have HO107 := n0_; have HB := n1_; clear n0_ n1_; (try clear hb); (try clear hb2); (try clear hk); (try clear hi); (try clear ho0); obtain ⟨Ao15, co15, eo15⟩ := Kd.V_slice HO107.out; subst eo15) | ((with_reducible refine gate_callee (f := 24) rfl ?_); refine gcall (some 17) Tryz.func24 #[.agg #[.int .i64 t103, .int .i64 t104, .slice Ao15 t105.length co15], .string a1] rfl ?_; (with_reducible refine (impl_tray_tiltedAll.calls kj2 t103 t104 (fun k_ => True) _ _ t105 a1 t108 t109 t110 _ ?side1 A12.out).mono ?_); (case side1 => (first | exact HO107.out | exact R_any HO107.out)); rintro e w16 ⟨v111, rfl, ho0, hb⟩; refine ⟨_, rfl, ?_⟩; have n0_ := Aside0.mk (Kd.V_below (by (with_reducible repeat (first | apply Kd.V_alloc | apply Kd.V_drewN | apply Kd.V_drew)); (first | exact HO107.out | exact R_any HO107.out)) hb); have n1_ := Aside0.mk (Kd.V_lower (Kd.V_mono (ok' := fun k_ => True) ho0 (fun k_ hk_ => trivial)) (below_size (bel HB))); have n2_ := Aside0.mk (below_step (bel HB) hb); clear HO107; clear HB; have HO107 := n0_; have HO112 := n1_; have HB := n2_; clear n0_ n1_ n2_; (try clear hb); (try clear hb2); (try clear hk); (try clear hi); (try clear ho0); obtain ⟨Ao17, co17, eo17⟩ := Kd.V_slice HO112.out; subst eo17) | ((with_reducible refine gate_callee (f := 18) rfl ?_); refine gcall (some 18) Tryz.func18 #[.agg #[.int .i64 t108, .int .i64 t109, .slice Ao17 t110.length co17]] rfl ?_; (with_reducible refine (impl_tray_text.calls t108 t109 _ _ t110 t113 _ ?side1 ?side2 A13.out).mono ?_); (case side1 => repeat (first | exact (Kd.V_reads' HO112.out).2.2 | (with_reducible refine Kd.C_alloc ?_ _) | (with_reducible refine Kd.C_drewN ?_ _) | (with_reducible refine Kd.C_drew ?_))); (case side2 => exact (Kd.V_reads' HO112.out).2.1); rintro e w18 ⟨rfl, hb⟩; refine ⟨_, rfl, ?_⟩; have n0_ := Aside0.mk (Kd.V_below (by (with_reducible repeat (first | apply Kd.V_alloc | apply Kd.V_drewN | apply Kd.V_drew)); (first | exact HO107.out | exact R_any HO107.out)) hb); have n1_ := Aside0.mk (Kd.V_below (by (with_reducible repeat (first | apply Kd.V_alloc | apply Kd.V_drewN | apply Kd.V_drew)); (first | exact HO112.out | exact R_any HO112.out)) hb); have n2_ := Aside0.mk (below_step (bel HB) hb); clear HO107; clear HO112; clear HB; have HO107 := n0_; have HO112 := n1_; have HB := n2_; clear n0_ n1_ n2_; (try clear hb); (try clear hb2); (try clear hk); (try clear hi)))
    go_ret2
    exact ⟨by first | rfl | (simp [errW_none, errW_some] <;> rfl) | (simp [*, errW_none, errW_some] <;> rfl), bel HB⟩
end Go.Proofs.YtcpeldgnabfdmaaGreatDoor.Q
end
section
namespace Go.Proofs.YtcpeldgnabfdmaaGreatDoor.Q
set_option linter.unusedSectionVars false
open Go.RowKit Go.Proofs.YtcpeldgnabfdmaaGreatDoorW.PrintWords Go.Proofs.YtcpeldgnabfdmaaGreatDoorW.PrintLast Go.Proofs.YtcpeldgnabfdmaaGreatDoorW.PrintMore
open Classical
def TiltWordR (t s : ByteArray) : ByteArray × Bool := match trayOf t with
 | none => (⟨#[]⟩, false)
 | some (w, h, cs) => if wordB s = true then (tx (tiltW w.toNat h.toNat (s.data.toList.map dirN) cs) w.toNat h.toNat, true) else (⟨#[]⟩, false)
theorem implTiltWord_ev (t s : ByteArray) (ht0 : t.size ≤ 1048576) (_hs0 : s.size ≤ 1048576) : Ev (fun k => impl_TiltWord.f k t s) (TiltWordR t s) := by
 refine Ev.bind (f := fun k (t101 : Bool) => (if t101 = true then ((impl_IsWord.f s).bind fun t102 => (impl_TiltWord.j0 k t s (!t102))) else (impl_TiltWord.j0 k t s true))) (isTray_ev t ht0) ?_
 unfold TiltWordR
 have hfail : Ev (fun k => impl_TiltWord.j0 k t s true) (((⟨#[]⟩ : ByteArray)), false) := Ev.step (Ev.const (o := some (((⟨#[]⟩ : ByteArray)), false)) rfl) fun k => by rw [impl_TiltWord.j0, if_pos rfl]
 rcases ht : trayOf t with _ | ⟨w, h, cs⟩
 ·exact Ev.congr hfail fun k => if_neg (by simp)
 ·have hread := tray_read ht
  obtain ⟨w, h, cs, e, hw1, hw, hh1, hh, hs, hn⟩ := tray_parts ht
  injection e with e1 e2
  injection e2 with e2 e3
  subst e1 e2 e3
  have hz : 0 < w * h := Nat.mul_pos hw1 hh1
  show Ev _ (if wordB s = true then _ else _)
  simp only [Int.toNat_natCast]
  have hgo : ∀ b : Bool, wordB s = b → Ev (fun k => impl_TiltWord.j0 k t s (!b)) (if wordB s = true then (tx (tiltW w h (s.data.toList.map dirN) cs) w h, true) else (⟨#[]⟩, false)) := by
   intro b hb
   cases b with
   | false =>
    rw [if_neg (by rw [hb]; decide)]
    exact hfail
   | true =>
    rw [if_pos hb]
    have hrun := tiltedAll_ev hw hh hs hw1 hh1 hb hn
    have htx := text_val w h (tiltW w h (s.data.toList.map dirN) cs) hw1 hh1 hs (tiltW_len hw hh hs hw1 hh1 _ _ wordB_lt hn)
    refine Ev.step (Ev.bind (f := fun _ (bt108 : Int × Int × List Int) => ((impl_tray_text.f bt108.1 bt108.2.1 bt108.2.2).bind fun t113 => (some (t113, true)))) hrun (Ev.const ?_)) fun k => ?_
    ·show (impl_tray_text.f w h (tiltW w h (s.data.toList.map dirN) cs)).bind _ = _
     rw [htx]
     rfl
    ·rw [impl_TiltWord.j0, if_neg (by decide), hread, Option.bind_some]
  refine Ev.congr (hgo _ rfl) fun k => ?_
  show (if true = true then _ else _) = _
  rw [if_pos rfl, isWord_eq, Option.bind_some]
end Go.Proofs.YtcpeldgnabfdmaaGreatDoor.Q
end
section
namespace Go.Proofs.YtcpeldgnabfdmaaGreatDoor.Q
open Go.RowKit Go.Proofs.YtcpeldgnabfdmaaGreatDoorW.PrintWords Go.Proofs.YtcpeldgnabfdmaaGreatDoorW.PrintLast Go.Proofs.YtcpeldgnabfdmaaGreatDoorW.PrintMore
attribute [local go_sem] max2_int min2_int max_two min_two max_three min_three max_four min_four
set_option linter.unusedVariables false
set_option linter.unusedSimpArgs false
def spec_AreSameWords.j0 : Nat → ByteArray → ByteArray → Bool → Int → Int → List Int → Option (Bool × Bool)
 | 0, _, _, _, _, _, _ => none
 | k + 1, x1, x2, x26, x108000, x108001, x108002 => if x26 = true then (some (false, false)) else ((spec_tiRun.f k x108000 x108001 x108002 x1).bind fun bt110 => ((spec_tyText.f k bt110.1 bt110.2.1 bt110.2.2).bind fun t115 => ((spec_tiRun.f k x108000 x108001 x108002 x2).bind fun bt116 => ((spec_tyText.f k bt116.1 bt116.2.1 bt116.2.2).bind fun t121 => (some ((t115.toList == t121.toList), true))))))
def spec_AreSameWords.f (k : Nat) (a0 : ByteArray) (a1 : ByteArray) (a2 : ByteArray) : Option (Bool × Bool) := (spec_tyRead.f k a0).bind fun bt101 => (if bt101.2.2.2 = true then ((spec_tiWord.f k a1).bind fun t108 => (if t108 = true then ((spec_tiWord.f k a2).bind fun t109 => (spec_AreSameWords.j0 k a1 a2 (!t109) bt101.1 bt101.2.1 bt101.2.2.1)) else (spec_AreSameWords.j0 k a1 a2 true bt101.1 bt101.2.1 bt101.2.2.1))) else (spec_AreSameWords.j0 k a1 a2 true bt101.1 bt101.2.1 bt101.2.2.1))
def spec_AreSameWords.T4 : Bool × List (List Nat × List Nat) := (true, [([], []), ([], []), ([0, 1], [0, 1]), ([2, 2], [2]), ([], []), ([], []), ([4, 5, 3], [4, 5]), ([6, 6], [6]), ([3, 7], [3, 7]), ([8, 7, 0, 1, 2, 3, 4, 5, 6, 7, 8], [8]), ([9, 0, 1, 2, 3, 4, 5, 6, 7, 8, 9], [])])
def spec_AreSameWords.B4 : List Nat := [0, 0, 3, 7, 0, 0, 63, 127, 255, 511, 1023]
theorem spec_AreSameWords.tab4 : rtab .any (opsOf Tryz.f10 4) = spec_AreSameWords.T4 := by kernel_rfl
theorem spec_AreSameWords.bits4 : waitsOk spec_AreSameWords.T4.2 spec_AreSameWords.B4 = true := by kernel_rfl
set_option maxHeartbeats 8000000 in
set_option maxRecDepth 100000 in
theorem spec_AreSameWords.calls (k : Nat) (a0 : ByteArray) (a1 : ByteArray) (a2 : ByteArray) (r1 : Bool) (r2 : Bool) (w : World) (h : spec_AreSameWords.f k a0 a1 a2 = some (r1, r2)) :
  Calls Tryz.prog 10 #[.string a0, .string a1, .string a2] w fun e w' => e = .returned (.tuple #[.bool r1, .bool r2]) ∧ Below w.heap.size w w' := by
 have hu30 := Tryz.underlying30
 have HB := Aside0.mk (Below.refl w.heap.size w)
 have H : ((spec_tyRead.f k a0).bind fun bt101 => (if bt101.2.2.2 = true then ((spec_tiWord.f k a1).bind fun t108 => (if t108 = true then ((spec_tiWord.f k a2).bind fun t109 => (spec_AreSameWords.j0 k a1 a2 (!t109) bt101.1 bt101.2.1 bt101.2.2.1)) else (spec_AreSameWords.j0 k a1 a2 true bt101.1 bt101.2.1 bt101.2.2.1))) else (spec_AreSameWords.j0 k a1 a2 true bt101.1 bt101.2.1 bt101.2.2.1))) = some (r1, r2) := h
 clear h
 replace H := Option.bind_eq_some_iff.mp H
 obtain ⟨⟨t101, t102, t103, t106⟩, A40, H⟩ := H
 replace H : (if t106 = true then ((spec_tiWord.f k a1).bind fun t108 => (if t108 = true then ((spec_tiWord.f k a2).bind fun t109 => (spec_AreSameWords.j0 k a1 a2 (!t109) t101 t102 t103)) else (spec_AreSameWords.j0 k a1 a2 true t101 t102 t103))) else (spec_AreSameWords.j0 k a1 a2 true t101 t102 t103)) = some (r1, r2) := H
 have A4 := Aside0.mk A40
 clear A40
 have HC5 := Aside0.mk H
 clear H
 go_enter Tryz.func10, Tryz.ntmps10
 go_upto_region 2 with (first | ((with_reducible refine gate_callee (f := 19) rfl ?_); refine gcall (some 12) Tryz.func19 #[.string a0] rfl ?_; (with_reducible refine (spec_tyRead.calls k a0 t101 t102 t103 t106 _ A4.out).mono ?_); rintro e w6 ⟨v104, rfl, ho0, hb⟩; refine ⟨_, rfl, ?_⟩; have n0_ := Aside0.mk (Kd.R_lower ho0 (below_size (bel HB))); have n1_ := Aside0.mk (below_step (bel HB) hb); clear HB; have HO105 := n0_; have HB := n1_; clear n0_ n1_; (try clear hb); (try clear hb2); (try clear hk); (try clear hi); (try clear ho0)) | ((with_reducible refine gate_dst (N := 8) rfl ?_); refine boxE (N := 8) (cs := #[.int .i64 0, .int .i64 0, .slice none 0 0]) (t := 30) ?_; intro gb107 hg w7 hbox hb; have n0_ := Aside0.mk (Kd.R_below (rch HO105) hb); have n1_ := Aside0.mk (below_step (bel HB) hb); have n2_ := Aside0.mk (hbox); have n3_ := Aside0.mk (gsz hg (bel HB)); have n4_ := Aside0.mk (gsz hg (bel HB)); clear HO105; clear HB; have HO105 := n0_; have HB := n1_; have BK107 := n2_; have GW107 := n3_; have GE107 := n4_; clear n0_ n1_ n2_ n3_ n4_; clear hb hbox hg; have hcz8_0 : w7.cell? ⟨gb107, 0, none⟩ = some (.int .i64 0) := (blk_cell BK107.out 0).trans rfl; have hcz8_1 : w7.cell? ⟨gb107, 1, none⟩ = some (.int .i64 0) := (blk_cell BK107.out 1).trans rfl; have hcz8_2 : w7.cell? ⟨gb107, 2, none⟩ = some (.slice none 0 0) := (blk_cell BK107.out 2).trans rfl; have hfz8_0 := blk_frozen BK107.out 0; have hfz8_1 := blk_frozen BK107.out 1; have hfz8_2 := blk_frozen BK107.out 2; obtain ⟨Ao9, co9, eo9⟩ := Kd.R_slice HO105.out; subst eo9))
 (try simp only [Act.put, List.setIfInBounds_toArray, List.set_cons_zero, List.set_cons_succ])
 go_cut [26] (fun v26 wc => ∃ (kq : Nat) (x26_4 : Bool), v26 = .bool x26_4 ∧ Aside0 (spec_AreSameWords.j0 kq a1 a2 x26_4 t101 t102 t103 = some (r1, r2)) ∧ Aside0 (kq ≤ k) ∧ Aside0 (Kd.R (Kd.int .u8) 5 wc w.heap.size (fun _ => True) (.slice Ao9 t103.length co9) t103) ∧ Aside0 (wc.heap[gb107]? = some (.cells #[.int .i64 t101, .int .i64 t102, (.slice Ao9 t103.length co9)] 30 (0, 0))) ∧ Aside0 (Below w.heap.size w wc))
 case first =>
  have H := HC5.out
  clear HC5
  by_cases c10 : t106 = true
  ·subst c10
   have H1 : ((spec_tiWord.f k a1).bind fun t108 => (if t108 = true then ((spec_tiWord.f k a2).bind fun t109 => (spec_AreSameWords.j0 k a1 a2 (!t109) t101 t102 t103)) else (spec_AreSameWords.j0 k a1 a2 true t101 t102 t103))) = some (r1, r2) := by rw [if_pos rfl] at H; exact H
   clear H
   have H := H1
   clear H1
   replace H := Option.bind_eq_some_iff.mp H
   obtain ⟨t108, A110, H⟩ := H
   replace H : (if t108 = true then ((spec_tiWord.f k a2).bind fun t109 => (spec_AreSameWords.j0 k a1 a2 (!t109) t101 t102 t103)) else (spec_AreSameWords.j0 k a1 a2 true t101 t102 t103)) = some (r1, r2) := H
   have A11 := Aside0.mk A110
   clear A110
   by_cases c12 : t108 = true
   ·subst c12
    have H1 : ((spec_tiWord.f k a2).bind fun t109 => (spec_AreSameWords.j0 k a1 a2 (!t109) t101 t102 t103)) = some (r1, r2) := by rw [if_pos rfl] at H; exact H
    clear H
    have H := H1
    clear H1
    replace H := Option.bind_eq_some_iff.mp H
    obtain ⟨t109, A130, H⟩ := H
    replace H : (spec_AreSameWords.j0 k a1 a2 (!t109) t101 t102 t103) = some (r1, r2) := H
    have A13 := Aside0.mk A130
    clear A130
    have H' := Aside0.mk H
    clear H
    go_wp2_with (first | (go_at_call 20; (with_reducible refine (spec_tiWord.calls k a1 true _ A11.out).mono ?_); rintro e w' ⟨rfl, ⟨nd, rfl⟩⟩) | (go_at_call 20; (with_reducible refine (spec_tiWord.calls k a2 t109 _ A13.out).mono ?_); rintro e w' ⟨rfl, ⟨nd, rfl⟩⟩))
    go_meet
    case rel => exact ⟨_, (!t109), (by first | rfl | (simp; done) | (simp [*]; done)), H', ⟨by first | omega | exact Nat.le_refl _⟩, ⟨by (with_reducible repeat (first | apply Kd.R_alloc | apply Kd.R_drewN | apply Kd.R_drew)); exact Kd.R_mono (Kd.R_far (p := ⟨gb107, 2, none⟩) (Kd.R_far (p := ⟨gb107, 1, none⟩) (Kd.R_far (p := ⟨gb107, 0, none⟩) (Kd.R_types HO105.out BK107.out (by decide)) (fun _ hk => hk.2) (.int .i64 t101)) (fun _ hk => hk.2) (.int .i64 t102)) (fun _ hk => hk.2) (.slice Ao9 t103.length co9)) (fun _ hk => trivial)⟩, ⟨by (with_reducible repeat (first | refine blk_drewN ?_ _ | refine blk_drew ?_ | refine blk_alloc ?_ _)); refine blk_put (cs := #[.int .i64 t101, .int .i64 t102, .slice none 0 0]) ?_ 2 _ rfl; (with_reducible repeat (first | refine blk_drewN ?_ _ | refine blk_drew ?_ | refine blk_alloc ?_ _)); refine blk_put (cs := #[.int .i64 t101, .int .i64 0, .slice none 0 0]) ?_ 1 _ rfl; (with_reducible repeat (first | refine blk_drewN ?_ _ | refine blk_drew ?_ | refine blk_alloc ?_ _)); refine blk_put (cs := #[.int .i64 0, .int .i64 0, .slice none 0 0]) ?_ 0 _ rfl; exact blc⟩, ⟨bel HB⟩⟩
   ·replace c12 := Bool.eq_false_iff.mpr c12
    subst c12
    have H1 : (spec_AreSameWords.j0 k a1 a2 true t101 t102 t103) = some (r1, r2) := by rw [if_neg (show ¬ (false = true) by decide)] at H; exact H
    clear H
    have H := H1
    clear H1
    have H' := Aside0.mk H
    clear H
    go_wp2_with (first | (go_at_call 20; (with_reducible refine (spec_tiWord.calls k a1 false _ A11.out).mono ?_); rintro e w' ⟨rfl, ⟨nd, rfl⟩⟩))
    go_meet
    case rel => exact ⟨_, (true), (by first | rfl | (simp; done) | (simp [*]; done)), H', ⟨by first | omega | exact Nat.le_refl _⟩, ⟨by (with_reducible repeat (first | apply Kd.R_alloc | apply Kd.R_drewN | apply Kd.R_drew)); exact Kd.R_mono (Kd.R_far (p := ⟨gb107, 2, none⟩) (Kd.R_far (p := ⟨gb107, 1, none⟩) (Kd.R_far (p := ⟨gb107, 0, none⟩) (Kd.R_types HO105.out BK107.out (by decide)) (fun _ hk => hk.2) (.int .i64 t101)) (fun _ hk => hk.2) (.int .i64 t102)) (fun _ hk => hk.2) (.slice Ao9 t103.length co9)) (fun _ hk => trivial)⟩, ⟨by (with_reducible repeat (first | refine blk_drewN ?_ _ | refine blk_drew ?_ | refine blk_alloc ?_ _)); refine blk_put (cs := #[.int .i64 t101, .int .i64 t102, .slice none 0 0]) ?_ 2 _ rfl; (with_reducible repeat (first | refine blk_drewN ?_ _ | refine blk_drew ?_ | refine blk_alloc ?_ _)); refine blk_put (cs := #[.int .i64 t101, .int .i64 0, .slice none 0 0]) ?_ 1 _ rfl; (with_reducible repeat (first | refine blk_drewN ?_ _ | refine blk_drew ?_ | refine blk_alloc ?_ _)); refine blk_put (cs := #[.int .i64 0, .int .i64 0, .slice none 0 0]) ?_ 0 _ rfl; exact blc⟩, ⟨bel HB⟩⟩
  ·replace c10 := Bool.eq_false_iff.mpr c10
   subst c10
   have H1 : (spec_AreSameWords.j0 k a1 a2 true t101 t102 t103) = some (r1, r2) := by rw [if_neg (show ¬ (false = true) by decide)] at H; exact H
   clear H
   have H := H1
   clear H1
   have H' := Aside0.mk H
   clear H
   go_wp2
   go_meet
   case rel => exact ⟨_, (true), (by first | rfl | (simp; done) | (simp [*]; done)), H', ⟨by first | omega | exact Nat.le_refl _⟩, ⟨by (with_reducible repeat (first | apply Kd.R_alloc | apply Kd.R_drewN | apply Kd.R_drew)); exact Kd.R_mono (Kd.R_far (p := ⟨gb107, 2, none⟩) (Kd.R_far (p := ⟨gb107, 1, none⟩) (Kd.R_far (p := ⟨gb107, 0, none⟩) (Kd.R_types HO105.out BK107.out (by decide)) (fun _ hk => hk.2) (.int .i64 t101)) (fun _ hk => hk.2) (.int .i64 t102)) (fun _ hk => hk.2) (.slice Ao9 t103.length co9)) (fun _ hk => trivial)⟩, ⟨by (with_reducible repeat (first | refine blk_drewN ?_ _ | refine blk_drew ?_ | refine blk_alloc ?_ _)); refine blk_put (cs := #[.int .i64 t101, .int .i64 t102, .slice none 0 0]) ?_ 2 _ rfl; (with_reducible repeat (first | refine blk_drewN ?_ _ | refine blk_drew ?_ | refine blk_alloc ?_ _)); refine blk_put (cs := #[.int .i64 t101, .int .i64 0, .slice none 0 0]) ?_ 1 _ rfl; (with_reducible repeat (first | refine blk_drewN ?_ _ | refine blk_drew ?_ | refine blk_alloc ?_ _)); refine blk_put (cs := #[.int .i64 0, .int .i64 0, .slice none 0 0]) ?_ 0 _ rfl; exact blc⟩, ⟨bel HB⟩⟩
 case rest =>
  clear HC5
  try clear c1
  try clear p2
  try clear c10
  try clear c12
  try clear hcz8_0
  try clear hcz8_1
  try clear hcz8_2
  try clear hfz8_0
  try clear hfz8_1
  try clear hfz8_2
  obtain ⟨kq, x26_4, rfl, HA, HJ4, HO_108002, BK107, HB⟩ := hcut
  cases kq with
  | zero => exact absurd HA.out (by simp [spec_AreSameWords.j0])
  | succ kj4 =>
   have H := HA.out
   clear HA
   simp only [spec_AreSameWords.j0] at H
   by_cases c14 : x26_4 = true
   ·subst c14
    have H1 : (some (false, false)) = some (r1, r2) := by rw [if_pos rfl] at H; exact H
    clear H
    have H := H1
    clear H1
    simp only [Option.some.injEq, Prod.mk.injEq] at H
    obtain ⟨rfl, rfl⟩ := H
    go_wp2
    go_ret2
    exact ⟨by first | rfl | (simp [errW_none, errW_some] <;> rfl) | (simp [*, errW_none, errW_some] <;> rfl), bel HB⟩
   ·replace c14 := Bool.eq_false_iff.mpr c14
    subst c14
    have H1 : ((spec_tiRun.f kj4 t101 t102 t103 a1).bind fun bt110 => ((spec_tyText.f kj4 bt110.1 bt110.2.1 bt110.2.2).bind fun t115 => ((spec_tiRun.f kj4 t101 t102 t103 a2).bind fun bt116 => ((spec_tyText.f kj4 bt116.1 bt116.2.1 bt116.2.2).bind fun t121 => (some ((t115.toList == t121.toList), true)))))) = some (r1, r2) := by rw [if_neg (show ¬ (false = true) by decide)] at H; exact H
    clear H
    have H := H1
    clear H1
    replace H := Option.bind_eq_some_iff.mp H
    obtain ⟨⟨t110, t111, t112⟩, A150, H⟩ := H
    replace H : ((spec_tyText.f kj4 t110 t111 t112).bind fun t115 => ((spec_tiRun.f kj4 t101 t102 t103 a2).bind fun bt116 => ((spec_tyText.f kj4 bt116.1 bt116.2.1 bt116.2.2).bind fun t121 => (some ((t115.toList == t121.toList), true))))) = some (r1, r2) := H
    have A15 := Aside0.mk A150
    clear A150
    replace H := Option.bind_eq_some_iff.mp H
    obtain ⟨t115, A160, H⟩ := H
    replace H : ((spec_tiRun.f kj4 t101 t102 t103 a2).bind fun bt116 => ((spec_tyText.f kj4 bt116.1 bt116.2.1 bt116.2.2).bind fun t121 => (some ((t115.toList == t121.toList), true)))) = some (r1, r2) := H
    have A16 := Aside0.mk A160
    clear A160
    replace H := Option.bind_eq_some_iff.mp H
    obtain ⟨⟨t116, t117, t118⟩, A170, H⟩ := H
    replace H : ((spec_tyText.f kj4 t116 t117 t118).bind fun t121 => (some ((t115.toList == t121.toList), true))) = some (r1, r2) := H
    have A17 := Aside0.mk A170
    clear A170
    replace H := Option.bind_eq_some_iff.mp H
    obtain ⟨t121, A180, H⟩ := H
    replace H : (some ((t115.toList == t121.toList), true)) = some (r1, r2) := H
    have A18 := Aside0.mk A180
    clear A180
    simp only [Option.some.injEq, Prod.mk.injEq] at H
    obtain ⟨rfl, rfl⟩ := H
    try go_wp2
    have n0_ := Aside0.mk (Kd.R_drew HO_108002.out)
    have n1_ := Aside0.mk (blk_drew BK107.out)
    have n2_ := Aside0.mk (below_drew1 HB.out)
    clear HO_108002
    clear BK107
    clear HB
    have HO_108002 := n0_
    have BK107 := n1_
    have HB := n2_
    clear n0_ n1_ n2_
    refine start_ (n := 11) (S := fun w' => w'.cell? ⟨gb107, 0, none⟩ = some (.int .i64 t101) ∧ w'.cell? ⟨gb107, 1, none⟩ = some (.int .i64 t102) ∧ w'.cell? ⟨gb107, 2, none⟩ = some (.slice Ao9 t103.length co9)) (ds := []) #[false, false, false, false, false, false, false, false, false, false, false] (by kernel_rfl) rfl rfl ⟨(blk_cell BK107.out 0).trans rfl, (blk_cell BK107.out 1).trans rfl, (blk_cell BK107.out 2).trans rfl⟩ (fun hHeld => ?_); refine with_tabW spec_AreSameWords.tab4 spec_AreSameWords.bits4 (fun HT_ HW_ => ?_)
    generalize wc.drew = w19 at HO_108002 BK107 HB hHeld ⊢
    refine pure_ (i := 1) (N := some 28) (v := ?_) (a' := ?_) #[false, true, false, false, false, false, false, false, false, false, false] rfl rfl (any_of HT_.out (by kernel_rfl)) (fun _ _ _ h => h) (Or.inl ⟨by rfl, ?_⟩) ?_ ?_
    rotate_left
    ·intro w'
     go_simp
     with_reducible rfl
    rotate_left
    ·simp only [Act.put, List.setIfInBounds_toArray, List.set_cons_zero, List.set_cons_succ, i64_w, i32_w]
     rfl
    refine pure_ (i := 5) (N := some 32) (v := ?_) (a' := ?_) #[false, true, false, false, false, true, false, false, false, false, false] rfl rfl (any_of HT_.out (by kernel_rfl)) (fun _ _ _ h => h) (Or.inl ⟨by rfl, ?_⟩) ?_ ?_
    rotate_left
    ·intro w'
     go_simp
     with_reducible rfl
    rotate_left
    ·simp only [Act.put, List.setIfInBounds_toArray, List.set_cons_zero, List.set_cons_succ, i64_w, i32_w]
     rfl
    refine take_ (i := 0) (N := some 27) (v := ?_) (a' := ?_) #[true, true, false, false, false, true, false, false, false, false, false] rfl rfl (take_ofW HT_.out HW_.out (by kernel_rfl)) (fun _ _ _ h => h) (Or.inl ⟨by rfl, ?_⟩) hHeld ?_ ?_
    rotate_left
    ·rintro w' ⟨s0, s1, s2⟩
     go_simp
     with_reducible rfl
    rotate_left
    ·simp only [Act.put, List.setIfInBounds_toArray, List.set_cons_zero, List.set_cons_succ, i64_w, i32_w]
     rfl
    refine take_ (i := 4) (N := some 31) (v := ?_) (a' := ?_) #[true, true, false, false, true, true, false, false, false, false, false] rfl rfl (take_ofW HT_.out HW_.out (by kernel_rfl)) (fun _ _ _ h => h) (Or.inl ⟨by rfl, ?_⟩) hHeld ?_ ?_
    rotate_left
    ·rintro w' ⟨s0, s1, s2⟩
     go_simp
     with_reducible rfl
    rotate_left
    ·simp only [Act.put, List.setIfInBounds_toArray, List.set_cons_zero, List.set_cons_succ, i64_w, i32_w]
     rfl
    refine one_ (i := 2) (N := some 29) #[true, true, true, false, true, true, false, false, false, false, false] rfl rfl (one_of HT_.out (by kernel_rfl)) (by decide) (fun K hK => ?_)
    refine goes_ Tryz.func21 (by kernel_rfl) rfl #[.agg #[.int .i64 t101, .int .i64 t102, .slice Ao9 t103.length co9], .string a1] (by rfl) rfl rfl (by (try simp only [List.map_toArray, List.map_cons, List.map_nil]); first | done | rfl | (simp only [List.length_drop, List.length_take]; rfl)) ?_
    with_reducible refine (spec_tiRun.calls kj4 t101 t102 (fun k_ => some k_ = (.slice Ao9 t103.length co9 : Value).ownBlock) _ _ t103 a1 t110 t111 t112 _ ?side1 A15.out).mono ?_
    (case side1 => exact Kd.R_V (Kd.R_tight rfl (Kd.R_types (HO_108002.out) BK107.out (by decide))))
    rintro e w20 ⟨v113, rfl, ho0, hb⟩
    refine ⟨_, rfl, ?_⟩
    have n0_ := Aside0.mk (Kd.R_below (rch HO_108002) hb)
    have n1_ := Aside0.mk (Kd.V_lower (Kd.V_mono (ok' := fun k_ => k_ ≠ gb107) ho0 (fun k_ hk_ => Or.elim hk_ (fun hs_ => ((Kd.R_types (HO_108002.out) BK107.out (by decide)).1 k_ hs_.symm).2) (fun hn_ => (Kd.freshB (g := gb107) (o := .cells #[.int .i64 t101, .int .i64 t102, .slice Ao9 t103.length co9] 30 (0, 0)) blc k_ hn_)))) (below_size (bel HB)))
    have n2_ := Aside0.mk (blk_below (g := gb107) (o := .cells #[.int .i64 t101, .int .i64 t102, .slice Ao9 t103.length co9] 30 (0, 0)) blc hb)
    have n3_ := Aside0.mk (below_step (bel HB) hb)
    clear HO_108002
    clear BK107
    clear HB
    have HO_108002 := n0_
    have HO114 := n1_
    have BK107 := n2_
    have HB := n3_
    clear n0_ n1_ n2_ n3_
    (try clear hb)
    (try clear hb2)
    (try clear hk)
    (try clear hi)
    (try clear ho0)
    obtain ⟨Ao21, co21, eo21⟩ := Kd.V_slice HO114.out
    (first | subst eo21 | (injection eo21 with f1_ f2_ f3_; have f4_ := f1_.symm; have f5_ := f3_.symm; clear f1_ f2_ f3_; subst f4_; subst f5_))
    refine hK.out _ _ ⟨(blk_cell BK107.out 0).trans rfl, (blk_cell BK107.out 1).trans rfl, (blk_cell BK107.out 2).trans rfl⟩ (fun hHeld => ?_)
    clear hK K
    refine norm_ (a' := ?_) ?_ ?_
    rotate_left
    ·show Act.put _ (some 29) _ = _
     simp only [Act.put, List.setIfInBounds_toArray, List.set_cons_zero, List.set_cons_succ, i64_w, i32_w]
     rfl
    refine one_ (i := 3) (N := some 30) #[true, true, true, true, true, true, false, false, false, false, false] rfl rfl (one_of HT_.out (by kernel_rfl)) (by decide) (fun K hK => ?_)
    refine goes_ Tryz.func13 (by kernel_rfl) rfl #[.agg #[.int .i64 t110, .int .i64 t111, .slice Ao21 t112.length co21]] (by rfl) rfl rfl (by (try simp only [List.map_toArray, List.map_cons, List.map_nil]); first | done | rfl | (simp only [List.length_drop, List.length_take]; rfl)) ?_
    with_reducible refine (spec_tyText.calls kj4 t110 t111 _ _ t112 t115 _ ?side1 ?side2 A16.out).mono ?_
    (case side1 => repeat (first | exact (Kd.V_reads' HO114.out).2.2 | (with_reducible refine Kd.C_alloc ?_ _) | (with_reducible refine Kd.C_drewN ?_ _) | (with_reducible refine Kd.C_drew ?_)))
    (case side2 => exact (Kd.V_reads' HO114.out).2.1)
    rintro e w22 ⟨rfl, hb⟩
    refine ⟨_, rfl, ?_⟩
    have n0_ := Aside0.mk (Kd.R_below (rch HO_108002) hb)
    have n1_ := Aside0.mk (Kd.V_below (by (with_reducible repeat (first | apply Kd.V_alloc | apply Kd.V_drewN | apply Kd.V_drew)); (first | exact HO114.out | exact R_any HO114.out)) hb)
    have n2_ := Aside0.mk (blk_below (g := gb107) (o := .cells #[.int .i64 t101, .int .i64 t102, .slice Ao9 t103.length co9] 30 (0, 0)) blc hb)
    have n3_ := Aside0.mk (below_step (bel HB) hb)
    clear HO_108002
    clear HO114
    clear BK107
    clear HB
    have HO_108002 := n0_
    have HO114 := n1_
    have BK107 := n2_
    have HB := n3_
    clear n0_ n1_ n2_ n3_
    (try clear hb)
    (try clear hb2)
    (try clear hk)
    (try clear hi)
    refine hK.out _ _ ⟨(blk_cell BK107.out 0).trans rfl, (blk_cell BK107.out 1).trans rfl, (blk_cell BK107.out 2).trans rfl⟩ (fun hHeld => ?_)
    clear hK K
    refine norm_ (a' := ?_) ?_ ?_
    rotate_left
    ·show Act.put _ (some 30) _ = _
     simp only [Act.put, List.setIfInBounds_toArray, List.set_cons_zero, List.set_cons_succ, i64_w, i32_w]
     rfl
    refine one_ (i := 6) (N := some 33) #[true, true, true, true, true, true, true, false, false, false, false] rfl rfl (one_of HT_.out (by kernel_rfl)) (by decide) (fun K hK => ?_)
    refine goes_ Tryz.func21 (by kernel_rfl) rfl #[.agg #[.int .i64 t101, .int .i64 t102, .slice Ao9 t103.length co9], .string a2] (by rfl) rfl rfl (by (try simp only [List.map_toArray, List.map_cons, List.map_nil]); first | done | rfl | (simp only [List.length_drop, List.length_take]; rfl)) ?_
    with_reducible refine (spec_tiRun.calls kj4 t101 t102 (fun k_ => some k_ = (.slice Ao9 t103.length co9 : Value).ownBlock) _ _ t103 a2 t116 t117 t118 _ ?side1 A17.out).mono ?_
    (case side1 => exact Kd.R_V (Kd.R_tight rfl (Kd.R_types (HO_108002.out) BK107.out (by decide))))
    rintro e w23 ⟨v119, rfl, ho0, hb⟩
    refine ⟨_, rfl, ?_⟩
    have n0_ := Aside0.mk (Kd.R_below (rch HO_108002) hb)
    have n1_ := Aside0.mk (Kd.V_below (by (with_reducible repeat (first | apply Kd.V_alloc | apply Kd.V_drewN | apply Kd.V_drew)); (first | exact HO114.out | exact R_any HO114.out)) hb)
    have n2_ := Aside0.mk (Kd.V_lower (Kd.V_mono (ok' := fun k_ => k_ ≠ gb107) ho0 (fun k_ hk_ => Or.elim hk_ (fun hs_ => ((Kd.R_types (HO_108002.out) BK107.out (by decide)).1 k_ hs_.symm).2) (fun hn_ => (Kd.freshB (g := gb107) (o := .cells #[.int .i64 t101, .int .i64 t102, .slice Ao9 t103.length co9] 30 (0, 0)) blc k_ hn_)))) (below_size (bel HB)))
    have n3_ := Aside0.mk (blk_below (g := gb107) (o := .cells #[.int .i64 t101, .int .i64 t102, .slice Ao9 t103.length co9] 30 (0, 0)) blc hb)
    have n4_ := Aside0.mk (below_step (bel HB) hb)
    clear HO_108002
    clear HO114
    clear BK107
    clear HB
    have HO_108002 := n0_
    have HO114 := n1_
    have HO120 := n2_
    have BK107 := n3_
    have HB := n4_
    clear n0_ n1_ n2_ n3_ n4_
    (try clear hb)
    (try clear hb2)
    (try clear hk)
    (try clear hi)
    (try clear ho0)
    obtain ⟨Ao24, co24, eo24⟩ := Kd.V_slice HO120.out
    (first | subst eo24 | (injection eo24 with f1_ f2_ f3_; have f4_ := f1_.symm; have f5_ := f3_.symm; clear f1_ f2_ f3_; subst f4_; subst f5_))
    refine hK.out _ _ ⟨(blk_cell BK107.out 0).trans rfl, (blk_cell BK107.out 1).trans rfl, (blk_cell BK107.out 2).trans rfl⟩ (fun hHeld => ?_)
    clear hK K
    refine norm_ (a' := ?_) ?_ ?_
    rotate_left
    ·show Act.put _ (some 33) _ = _
     simp only [Act.put, List.setIfInBounds_toArray, List.set_cons_zero, List.set_cons_succ, i64_w, i32_w]
     rfl
    refine one_ (i := 7) (N := some 34) #[true, true, true, true, true, true, true, true, false, false, false] rfl rfl (one_of HT_.out (by kernel_rfl)) (by decide) (fun K hK => ?_)
    refine goes_ Tryz.func13 (by kernel_rfl) rfl #[.agg #[.int .i64 t116, .int .i64 t117, .slice Ao24 t118.length co24]] (by rfl) rfl rfl (by (try simp only [List.map_toArray, List.map_cons, List.map_nil]); first | done | rfl | (simp only [List.length_drop, List.length_take]; rfl)) ?_
    with_reducible refine (spec_tyText.calls kj4 t116 t117 _ _ t118 t121 _ ?side1 ?side2 A18.out).mono ?_
    (case side1 => repeat (first | exact (Kd.V_reads' HO120.out).2.2 | (with_reducible refine Kd.C_alloc ?_ _) | (with_reducible refine Kd.C_drewN ?_ _) | (with_reducible refine Kd.C_drew ?_)))
    (case side2 => exact (Kd.V_reads' HO120.out).2.1)
    rintro e w25 ⟨rfl, hb⟩
    refine ⟨_, rfl, ?_⟩
    have n0_ := Aside0.mk (Kd.R_below (rch HO_108002) hb)
    have n1_ := Aside0.mk (Kd.V_below (by (with_reducible repeat (first | apply Kd.V_alloc | apply Kd.V_drewN | apply Kd.V_drew)); (first | exact HO114.out | exact R_any HO114.out)) hb)
    have n2_ := Aside0.mk (Kd.V_below (by (with_reducible repeat (first | apply Kd.V_alloc | apply Kd.V_drewN | apply Kd.V_drew)); (first | exact HO120.out | exact R_any HO120.out)) hb)
    have n3_ := Aside0.mk (blk_below (g := gb107) (o := .cells #[.int .i64 t101, .int .i64 t102, .slice Ao9 t103.length co9] 30 (0, 0)) blc hb)
    have n4_ := Aside0.mk (below_step (bel HB) hb)
    clear HO_108002
    clear HO114
    clear HO120
    clear BK107
    clear HB
    have HO_108002 := n0_
    have HO114 := n1_
    have HO120 := n2_
    have BK107 := n3_
    have HB := n4_
    clear n0_ n1_ n2_ n3_ n4_
    (try clear hb)
    (try clear hb2)
    (try clear hk)
    (try clear hi)
    refine hK.out _ _ ⟨(blk_cell BK107.out 0).trans rfl, (blk_cell BK107.out 1).trans rfl, (blk_cell BK107.out 2).trans rfl⟩ (fun hHeld => ?_)
    clear hK K
    refine norm_ (a' := ?_) ?_ ?_
    rotate_left
    ·show Act.put _ (some 34) _ = _
     simp only [Act.put, List.setIfInBounds_toArray, List.set_cons_zero, List.set_cons_succ, i64_w, i32_w]
     rfl
    refine pure_ (i := 8) (N := some 35) (v := ?_) (a' := ?_) #[true, true, true, true, true, true, true, true, true, false, false] rfl rfl (any_of HT_.out (by kernel_rfl)) (fun _ _ _ h => h) (Or.inl ⟨by rfl, ?_⟩) ?_ ?_
    rotate_left
    ·intro w'
     go_simp
     with_reducible rfl
    rotate_left
    ·simp only [Act.put, List.setIfInBounds_toArray, List.set_cons_zero, List.set_cons_succ, i64_w, i32_w]
     rfl
    refine pure_ (i := 9) (N := some 6) (v := ?_) (a' := ?_) #[true, true, true, true, true, true, true, true, true, true, false] rfl rfl (any_of HT_.out (by kernel_rfl)) (fun _ _ _ h => h) (Or.inl ⟨by rfl, ?_⟩) ?_ ?_
    rotate_left
    ·intro w'
     go_simp
     with_reducible rfl
    rotate_left
    ·simp only [Act.put, List.setIfInBounds_toArray, List.set_cons_zero, List.set_cons_succ, i64_w, i32_w]
     rfl
    refine pure_ (i := 10) (N := some 7) (v := ?_) (a' := ?_) #[true, true, true, true, true, true, true, true, true, true, true] rfl rfl (any_of HT_.out (by kernel_rfl)) (fun _ _ _ h => h) (Or.inl ⟨by rfl, ?_⟩) ?_ ?_
    rotate_left
    ·intro w'
     go_simp
     with_reducible rfl
    rotate_left
    ·simp only [Act.put, List.setIfInBounds_toArray, List.set_cons_zero, List.set_cons_succ, i64_w, i32_w]
     rfl
    refine done_ (done_of HT_.out (by kernel_rfl)) ?_
    try go_wp2
    go_ret2
    exact ⟨by first | rfl | (simp [errW_none, errW_some] <;> rfl) | (simp [*, errW_none, errW_some] <;> rfl), bel HB⟩
def impl_AreSameWords.f (k : Nat) (a0 : ByteArray) (a1 : ByteArray) (a2 : ByteArray) : Option (Bool × Bool) := (impl_TiltWord.f k a0 a1).bind fun bt101 => ((impl_TiltWord.f k a0 a2).bind fun bt103 => (if bt101.2 = true then (if bt103.2 = true then (some ((bt101.1.toList == bt103.1.toList), bt103.2)) else (some (false, bt103.2))) else (some (false, false))))
set_option maxHeartbeats 8000000 in
set_option maxRecDepth 100000 in
theorem impl_AreSameWords.calls (k : Nat) (a0 : ByteArray) (a1 : ByteArray) (a2 : ByteArray) (r1 : Bool) (r2 : Bool) (w : World) (hG : GoodW w) (h : impl_AreSameWords.f k a0 a1 a2 = some (r1, r2)) :
  Calls Tryz.prog 11 #[.string a0, .string a1, .string a2] w fun e w' => e = .returned (.tuple #[.bool r1, .bool r2]) ∧ Below w.heap.size w w' := by
 have HG := Aside0.mk hG
 clear hG
 have HB := Aside0.mk (Below.refl w.heap.size w)
 have H : ((impl_TiltWord.f k a0 a1).bind fun bt101 => ((impl_TiltWord.f k a0 a2).bind fun bt103 => (if bt101.2 = true then (if bt103.2 = true then (some ((bt101.1.toList == bt103.1.toList), bt103.2)) else (some (false, bt103.2))) else (some (false, false))))) = some (r1, r2) := h
 clear h
 replace H := Option.bind_eq_some_iff.mp H
 obtain ⟨⟨t101, t102⟩, A40, H⟩ := H
 replace H : ((impl_TiltWord.f k a0 a2).bind fun bt103 => (if t102 = true then (if bt103.2 = true then (some ((t101.toList == bt103.1.toList), bt103.2)) else (some (false, bt103.2))) else (some (false, false)))) = some (r1, r2) := H
 have A4 := Aside0.mk A40
 clear A40
 replace H := Option.bind_eq_some_iff.mp H
 obtain ⟨⟨t103, t104⟩, A50, H⟩ := H
 replace H : (if t102 = true then (if t104 = true then (some ((t101.toList == t103.toList), t104)) else (some (false, t104))) else (some (false, false))) = some (r1, r2) := H
 have A5 := Aside0.mk A50
 clear A50
 by_cases c6 : t102 = true
 ·subst c6
  have H1 : (if t104 = true then (some ((t101.toList == t103.toList), t104)) else (some (false, t104))) = some (r1, r2) := by rw [if_pos rfl] at H; exact H
  clear H
  have H := H1
  clear H1
  by_cases c7 : t104 = true
  ·subst c7
   have H1 : (some ((t101.toList == t103.toList), true)) = some (r1, r2) := by rw [if_pos rfl] at H; exact H
   clear H
   have H := H1
   clear H1
   simp only [Option.some.injEq, Prod.mk.injEq] at H
   obtain ⟨rfl, rfl⟩ := H
   go_enter Tryz.func11, Tryz.ntmps11
   go_wp2_with (first | ((with_reducible refine gate_callee (f := 9) rfl ?_); refine gcall (some 15) Tryz.func9 #[.string a0, .string a1] rfl ?_; (with_reducible refine (impl_TiltWord.calls k a0 a1 t101 true _ ?side1 A4.out).mono ?_); (case side1 => (refine GoodW.below HG.out ?_); exact bel HB); rintro e w8 ⟨rfl, hb⟩; refine ⟨_, rfl, ?_⟩; have n0_ := Aside0.mk (below_step (bel HB) hb); clear HB; have HB := n0_; clear n0_; (try clear hb); (try clear hb2); (try clear hk); (try clear hi)) | ((with_reducible refine gate_callee (f := 9) rfl ?_); refine gcall (some 21) Tryz.func9 #[.string a0, .string a2] rfl ?_; (with_reducible refine (impl_TiltWord.calls k a0 a2 t103 true _ ?side1 A5.out).mono ?_); (case side1 => (refine GoodW.below HG.out ?_); exact bel HB); rintro e w9 ⟨rfl, hb⟩; refine ⟨_, rfl, ?_⟩; have n0_ := Aside0.mk (below_step (bel HB) hb); clear HB; have HB := n0_; clear n0_; (try clear hb); (try clear hb2); (try clear hk); (try clear hi)))
   go_ret2
   exact ⟨by first | rfl | (simp [errW_none, errW_some] <;> rfl) | (simp [*, errW_none, errW_some] <;> rfl), bel HB⟩
  ·replace c7 := Bool.eq_false_iff.mpr c7
   subst c7
   have H1 : (some (false, false)) = some (r1, r2) := by rw [if_neg (show ¬ (false = true) by decide)] at H; exact H
   clear H
   have H := H1
   clear H1
   simp only [Option.some.injEq, Prod.mk.injEq] at H
   obtain ⟨rfl, rfl⟩ := H
   go_enter Tryz.func11, Tryz.ntmps11
   go_wp2_with (first | ((with_reducible refine gate_callee (f := 9) rfl ?_); refine gcall (some 15) Tryz.func9 #[.string a0, .string a1] rfl ?_; (with_reducible refine (impl_TiltWord.calls k a0 a1 t101 true _ ?side1 A4.out).mono ?_); (case side1 => (refine GoodW.below HG.out ?_); exact bel HB); rintro e w10 ⟨rfl, hb⟩; refine ⟨_, rfl, ?_⟩; have n0_ := Aside0.mk (below_step (bel HB) hb); clear HB; have HB := n0_; clear n0_; (try clear hb); (try clear hb2); (try clear hk); (try clear hi)) | ((with_reducible refine gate_callee (f := 9) rfl ?_); refine gcall (some 21) Tryz.func9 #[.string a0, .string a2] rfl ?_; (with_reducible refine (impl_TiltWord.calls k a0 a2 t103 false _ ?side1 A5.out).mono ?_); (case side1 => (refine GoodW.below HG.out ?_); exact bel HB); rintro e w11 ⟨rfl, hb⟩; refine ⟨_, rfl, ?_⟩; have n0_ := Aside0.mk (below_step (bel HB) hb); clear HB; have HB := n0_; clear n0_; (try clear hb); (try clear hb2); (try clear hk); (try clear hi)))
   go_ret2
   exact ⟨by first | rfl | (simp [errW_none, errW_some] <;> rfl) | (simp [*, errW_none, errW_some] <;> rfl), bel HB⟩
 ·replace c6 := Bool.eq_false_iff.mpr c6
  subst c6
  have H1 : (some (false, false)) = some (r1, r2) := by rw [if_neg (show ¬ (false = true) by decide)] at H; exact H
  clear H
  have H := H1
  clear H1
  simp only [Option.some.injEq, Prod.mk.injEq] at H
  obtain ⟨rfl, rfl⟩ := H
  go_enter Tryz.func11, Tryz.ntmps11
  go_wp2_with (first | ((with_reducible refine gate_callee (f := 9) rfl ?_); refine gcall (some 15) Tryz.func9 #[.string a0, .string a1] rfl ?_; (with_reducible refine (impl_TiltWord.calls k a0 a1 t101 false _ ?side1 A4.out).mono ?_); (case side1 => (refine GoodW.below HG.out ?_); exact bel HB); rintro e w12 ⟨rfl, hb⟩; refine ⟨_, rfl, ?_⟩; have n0_ := Aside0.mk (below_step (bel HB) hb); clear HB; have HB := n0_; clear n0_; (try clear hb); (try clear hb2); (try clear hk); (try clear hi)) | ((with_reducible refine gate_callee (f := 9) rfl ?_); refine gcall (some 21) Tryz.func9 #[.string a0, .string a2] rfl ?_; (with_reducible refine (impl_TiltWord.calls k a0 a2 t103 t104 _ ?side1 A5.out).mono ?_); (case side1 => (refine GoodW.below HG.out ?_); exact bel HB); rintro e w13 ⟨rfl, hb⟩; refine ⟨_, rfl, ?_⟩; have n0_ := Aside0.mk (below_step (bel HB) hb); clear HB; have HB := n0_; clear n0_; (try clear hb); (try clear hb2); (try clear hk); (try clear hi)))
  go_ret2
  exact ⟨by first | rfl | (simp [errW_none, errW_some] <;> rfl) | (simp [*, errW_none, errW_some] <;> rfl), bel HB⟩
def laws_FnExactAreSameWords.f (k : Nat) (a0 : ByteArray) (a1 : ByteArray) (a2 : ByteArray) : Option (Bool) := if (a0.size : Int) > 1048576 then (some true) else (if (a1.size : Int) > 1048576 then (some true) else (if (a2.size : Int) > 1048576 then (some true) else ((spec_AreSameWords.f k a0 a1 a2).bind fun bt101 => ((impl_AreSameWords.f k a0 a1 a2).bind fun bt103 => (if (bt103.1 != bt101.1) = true then (some false) else (if (bt103.2 != bt101.2) = true then (some false) else (some true)))))))
set_option maxHeartbeats 8000000 in
set_option maxRecDepth 100000 in
theorem laws_FnExactAreSameWords.calls (k : Nat) (a0 : ByteArray) (a1 : ByteArray) (a2 : ByteArray) (r : Bool) (w : World) (hG : GoodW w) (h : laws_FnExactAreSameWords.f k a0 a1 a2 = some r) :
  Calls Tryz.prog 5 #[.string a0, .string a1, .string a2] w fun e w' => e = .returned (.bool r) ∧ Below w.heap.size w w' := by
 have HG := Aside0.mk hG
 clear hG
 have HB := Aside0.mk (Below.refl w.heap.size w)
 have H : (if (a0.size : Int) > 1048576 then (some true) else (if (a1.size : Int) > 1048576 then (some true) else (if (a2.size : Int) > 1048576 then (some true) else ((spec_AreSameWords.f k a0 a1 a2).bind fun bt101 => ((impl_AreSameWords.f k a0 a1 a2).bind fun bt103 => (if (bt103.1 != bt101.1) = true then (some false) else (if (bt103.2 != bt101.2) = true then (some false) else (some true)))))))) = some r := h
 clear h
 by_cases c4 : (a0.size : Int) > 1048576
 ·rw [if_pos c4] at H
  have c4b0 : decide (1048576 < (a0.size : Int)) = true := decide_eq_true c4
  have c4b1 : decide (1048576 < a0.size) = true := decide_eq_true (by omega)
  clear c4
  obtain rfl := Option.some.inj H
  go_enter Tryz.func5, Tryz.ntmps5
  go_wp2
  go_ret
  exact ⟨by first | rfl | (simp [errW_none, errW_some] <;> rfl) | (simp [*, errW_none, errW_some] <;> rfl), bel HB⟩
 ·rw [if_neg c4] at H
  have c4b0 : decide (1048576 < (a0.size : Int)) = false := decide_eq_false c4
  have c4b1 : decide (1048576 < a0.size) = false := decide_eq_false (by omega)
  clear c4
  by_cases c5 : (a1.size : Int) > 1048576
  ·rw [if_pos c5] at H
   have c5b0 : decide (1048576 < (a1.size : Int)) = true := decide_eq_true c5
   have c5b1 : decide (1048576 < a1.size) = true := decide_eq_true (by omega)
   clear c5
   obtain rfl := Option.some.inj H
   go_enter Tryz.func5, Tryz.ntmps5
   go_wp2
   go_ret
   exact ⟨by first | rfl | (simp [errW_none, errW_some] <;> rfl) | (simp [*, errW_none, errW_some] <;> rfl), bel HB⟩
  ·rw [if_neg c5] at H
   have c5b0 : decide (1048576 < (a1.size : Int)) = false := decide_eq_false c5
   have c5b1 : decide (1048576 < a1.size) = false := decide_eq_false (by omega)
   clear c5
   by_cases c6 : (a2.size : Int) > 1048576
   ·rw [if_pos c6] at H
    have c6b0 : decide (1048576 < (a2.size : Int)) = true := decide_eq_true c6
    have c6b1 : decide (1048576 < a2.size) = true := decide_eq_true (by omega)
    clear c6
    obtain rfl := Option.some.inj H
    go_enter Tryz.func5, Tryz.ntmps5
    go_wp2
    go_ret
    exact ⟨by first | rfl | (simp [errW_none, errW_some] <;> rfl) | (simp [*, errW_none, errW_some] <;> rfl), bel HB⟩
   ·rw [if_neg c6] at H
    have c6b0 : decide (1048576 < (a2.size : Int)) = false := decide_eq_false c6
    have c6b1 : decide (1048576 < a2.size) = false := decide_eq_false (by omega)
    clear c6
    replace H := Option.bind_eq_some_iff.mp H
    obtain ⟨⟨t101, t102⟩, A70, H⟩ := H
    replace H : ((impl_AreSameWords.f k a0 a1 a2).bind fun bt103 => (if (bt103.1 != t101) = true then (some false) else (if (bt103.2 != t102) = true then (some false) else (some true)))) = some r := H
    have A7 := Aside0.mk A70
    clear A70
    replace H := Option.bind_eq_some_iff.mp H
    obtain ⟨⟨t103, t104⟩, A80, H⟩ := H
    replace H : (if (t103 != t101) = true then (some false) else (if (t104 != t102) = true then (some false) else (some true))) = some r := H
    have A8 := Aside0.mk A80
    clear A80
    by_cases c9 : (t103 != t101) = true
    ·rw [if_pos c9] at H
     have c9b0 : (t103 != t101) = true := c9
     (try (have c9b1 : decide (t103 = t101) = false := by simpa using c9))
     (try (have c9b2 : (t103 == t101) = false := by simpa using c9))
     (try (have c9b3 : ¬ (t103 = t101) := by simpa using c9))
     clear c9
     obtain rfl := Option.some.inj H
     go_enter Tryz.func5, Tryz.ntmps5
     go_wp2_with (first | ((with_reducible refine gate_callee (f := 10) rfl ?_); refine gcall (some 24) Tryz.func10 #[.string a0, .string a1, .string a2] rfl ?_; (with_reducible refine (spec_AreSameWords.calls k a0 a1 a2 t101 t102 _ A7.out).mono ?_); rintro e w10 ⟨rfl, hb⟩; refine ⟨_, rfl, ?_⟩; have n0_ := Aside0.mk (below_step (bel HB) hb); clear HB; have HB := n0_; clear n0_; (try clear hb); (try clear hb2); (try clear hk); (try clear hi)) | ((with_reducible refine gate_callee (f := 11) rfl ?_); refine gcall (some 31) Tryz.func11 #[.string a0, .string a1, .string a2] rfl ?_; (with_reducible refine (impl_AreSameWords.calls k a0 a1 a2 t103 t104 _ ?side1 A8.out).mono ?_); (case side1 => (refine GoodW.below HG.out ?_); exact bel HB); rintro e w11 ⟨rfl, hb⟩; refine ⟨_, rfl, ?_⟩; have n0_ := Aside0.mk (below_step (bel HB) hb); clear HB; have HB := n0_; clear n0_; (try clear hb); (try clear hb2); (try clear hk); (try clear hi)))
     go_ret
     exact ⟨by first | rfl | (simp [errW_none, errW_some] <;> rfl) | (simp [*, errW_none, errW_some] <;> rfl), bel HB⟩
    ·rw [if_neg c9] at H
     have c9b0 : (t103 != t101) = false := by simpa using c9
     (try (have c9b1 : decide (t103 = t101) = true := by simpa using c9))
     (try (have c9b2 : (t103 == t101) = true := by simpa using c9))
     clear c9
     by_cases c12 : (t104 != t102) = true
     ·rw [if_pos c12] at H
      have c12b0 : (t104 != t102) = true := c12
      (try (have c12b1 : decide (t104 = t102) = false := by simpa using c12))
      (try (have c12b2 : (t104 == t102) = false := by simpa using c12))
      (try (have c12b3 : ¬ (t104 = t102) := by simpa using c12))
      clear c12
      obtain rfl := Option.some.inj H
      go_enter Tryz.func5, Tryz.ntmps5
      go_wp2_with (first | ((with_reducible refine gate_callee (f := 10) rfl ?_); refine gcall (some 24) Tryz.func10 #[.string a0, .string a1, .string a2] rfl ?_; (with_reducible refine (spec_AreSameWords.calls k a0 a1 a2 t101 t102 _ A7.out).mono ?_); rintro e w13 ⟨rfl, hb⟩; refine ⟨_, rfl, ?_⟩; have n0_ := Aside0.mk (below_step (bel HB) hb); clear HB; have HB := n0_; clear n0_; (try clear hb); (try clear hb2); (try clear hk); (try clear hi)) | ((with_reducible refine gate_callee (f := 11) rfl ?_); refine gcall (some 31) Tryz.func11 #[.string a0, .string a1, .string a2] rfl ?_; (with_reducible refine (impl_AreSameWords.calls k a0 a1 a2 t103 t104 _ ?side1 A8.out).mono ?_); (case side1 => (refine GoodW.below HG.out ?_); exact bel HB); rintro e w14 ⟨rfl, hb⟩; refine ⟨_, rfl, ?_⟩; have n0_ := Aside0.mk (below_step (bel HB) hb); clear HB; have HB := n0_; clear n0_; (try clear hb); (try clear hb2); (try clear hk); (try clear hi)))
      go_ret
      exact ⟨by first | rfl | (simp [errW_none, errW_some] <;> rfl) | (simp [*, errW_none, errW_some] <;> rfl), bel HB⟩
     ·rw [if_neg c12] at H
      have c12b0 : (t104 != t102) = false := by simpa using c12
      (try (have c12b1 : decide (t104 = t102) = true := by simpa using c12))
      (try (have c12b2 : (t104 == t102) = true := by simpa using c12))
      clear c12
      obtain rfl := Option.some.inj H
      go_enter Tryz.func5, Tryz.ntmps5
      go_wp2_with (first | ((with_reducible refine gate_callee (f := 10) rfl ?_); refine gcall (some 24) Tryz.func10 #[.string a0, .string a1, .string a2] rfl ?_; (with_reducible refine (spec_AreSameWords.calls k a0 a1 a2 t101 t102 _ A7.out).mono ?_); rintro e w15 ⟨rfl, hb⟩; refine ⟨_, rfl, ?_⟩; have n0_ := Aside0.mk (below_step (bel HB) hb); clear HB; have HB := n0_; clear n0_; (try clear hb); (try clear hb2); (try clear hk); (try clear hi)) | ((with_reducible refine gate_callee (f := 11) rfl ?_); refine gcall (some 31) Tryz.func11 #[.string a0, .string a1, .string a2] rfl ?_; (with_reducible refine (impl_AreSameWords.calls k a0 a1 a2 t103 t104 _ ?side1 A8.out).mono ?_); (case side1 => (refine GoodW.below HG.out ?_); exact bel HB); rintro e w16 ⟨rfl, hb⟩; refine ⟨_, rfl, ?_⟩; have n0_ := Aside0.mk (below_step (bel HB) hb); clear HB; have HB := n0_; clear n0_; (try clear hb); (try clear hb2); (try clear hk); (try clear hi)))
      go_ret
      exact ⟨by first | rfl | (simp [errW_none, errW_some] <;> rfl) | (simp [*, errW_none, errW_some] <;> rfl), bel HB⟩
end Go.Proofs.YtcpeldgnabfdmaaGreatDoor.Q
end
section
namespace Go.Proofs.YtcpeldgnabfdmaaGreatDoor.Q
set_option linter.unusedSectionVars false
open Go.RowKit Go.Proofs.YtcpeldgnabfdmaaGreatDoorW.PrintWords Go.Proofs.YtcpeldgnabfdmaaGreatDoorW.PrintLast Go.Proofs.YtcpeldgnabfdmaaGreatDoorW.PrintMore
open Classical
def AreSameWordsR (t s u : ByteArray) : Bool × Bool := match trayOf t with
 | none => (false, false)
 | some (w, h, cs) => if wordB s = true ∧ wordB u = true then ((tx (tiltW w.toNat h.toNat (s.data.toList.map dirN) cs) w.toNat h.toNat).toList == (tx (tiltW w.toNat h.toNat (u.data.toList.map dirN) cs) w.toNat h.toNat).toList, true) else (false, false)
theorem specAreSameWords_ev (t s u : ByteArray) : Ev (fun k => spec_AreSameWords.f k t s u) (AreSameWordsR t s u) := by
 refine Ev.bind (f := fun k (bt101 : Int × Int × List Int × Bool) => (if bt101.2.2.2 = true then ((spec_tiWord.f k s).bind fun t108 => (if t108 = true then ((spec_tiWord.f k u).bind fun t109 => (spec_AreSameWords.j0 k s u (!t109) bt101.1 bt101.2.1 bt101.2.2.1)) else (spec_AreSameWords.j0 k s u true bt101.1 bt101.2.1 bt101.2.2.1))) else (spec_AreSameWords.j0 k s u true bt101.1 bt101.2.1 bt101.2.2.1))) (tyRead_ev t) ?_
 unfold AreSameWordsR
 have hfail : ∀ w h cs, Ev (fun k => spec_AreSameWords.j0 k s u true w h cs) (false, false) := fun w h cs => Ev.step (Ev.const (o := some (false, false)) rfl) fun k => by rw [spec_AreSameWords.j0, if_pos rfl]
 rcases ht : trayOf t with _ | ⟨w, h, cs⟩
 ·exact Ev.congr (hfail _ _ _) fun k => if_neg Bool.false_ne_true
 ·obtain ⟨w, h, cs, e, hw1, hw, hh1, hh, hs, hn⟩ := tray_parts ht
  injection e with e1 e2
  injection e2 with e2 e3
  subst e1 e2 e3
  have hz : 0 < w * h := Nat.mul_pos hw1 hh1
  show Ev _ (if wordB s = true ∧ wordB u = true then _ else _)
  simp only [Int.toNat_natCast]
  have hgo2 : ∀ b : Bool, wordB u = b → wordB s = true → Ev (fun k => spec_AreSameWords.j0 k s u (!b) w h cs) (if wordB s = true ∧ wordB u = true then ((tx (tiltW w h (s.data.toList.map dirN) cs) w h).toList == (tx (tiltW w h (u.data.toList.map dirN) cs) w h).toList, true) else (false, false)) := by
   intro b hb hsb
   cases b with
   | false =>
    rw [if_neg (by rw [hb]; simp)]
    exact hfail _ _ _
   | true =>
    rw [if_pos ⟨hsb, hb⟩]
    have hrun := tiRun_ev hw hh hs hw1 hh1 hsb hn
    have htx := tyText_ev (w := w) (h := h) (cs := tiltW w h (s.data.toList.map dirN) cs) hw1 hh1 hs (tiltW_len hw hh hs hw1 hh1 _ _ wordB_lt hn)
    have hrun2 := tiRun_ev hw hh hs hw1 hh1 hb hn
    have htx2 := tyText_ev (w := w) (h := h) (cs := tiltW w h (u.data.toList.map dirN) cs) hw1 hh1 hs (tiltW_len hw hh hs hw1 hh1 _ _ wordB_lt hn)
    refine Ev.step (Ev.bind (f := fun k (bt110 : Int × Int × List Int) => ((spec_tyText.f k bt110.1 bt110.2.1 bt110.2.2).bind fun t115 => ((spec_tiRun.f k w h cs u).bind fun bt116 => ((spec_tyText.f k bt116.1 bt116.2.1 bt116.2.2).bind fun t121 => (some ((t115.toList == t121.toList), true)))))) hrun (Ev.bind (f := fun k (t115 : ByteArray) => ((spec_tiRun.f k w h cs u).bind fun bt116 => ((spec_tyText.f k bt116.1 bt116.2.1 bt116.2.2).bind fun t121 => (some ((t115.toList == t121.toList), true))))) htx (Ev.bind (f := fun k (bt116 : Int × Int × List Int) => ((spec_tyText.f k bt116.1 bt116.2.1 bt116.2.2).bind fun t121 => (some (((tx (tiltW w h (s.data.toList.map dirN) cs) w h).toList == t121.toList), true)))) hrun2 (Ev.bind (f := fun _ (t121 : ByteArray) => some (((tx (tiltW w h (s.data.toList.map dirN) cs) w h).toList == t121.toList), true)) htx2 (Ev.const rfl))))) fun k => ?_
    rw [spec_AreSameWords.j0, if_neg (by decide)]
  have hgo : ∀ b : Bool, wordB s = b → Ev (fun k => if b = true then ((spec_tiWord.f k u).bind fun t109 => (spec_AreSameWords.j0 k s u (!t109) w h cs)) else (spec_AreSameWords.j0 k s u true w h cs)) (if wordB s = true ∧ wordB u = true then ((tx (tiltW w h (s.data.toList.map dirN) cs) w h).toList == (tx (tiltW w h (u.data.toList.map dirN) cs) w h).toList, true) else (false, false)) := by
   intro b hb
   cases b with
   | false =>
    rw [if_neg (by rw [hb]; simp)]
    exact Ev.congr (hfail w h cs) fun k => if_neg (by decide)
   | true =>
    exact Ev.congr (Ev.bind (f := fun k t109 => spec_AreSameWords.j0 k s u (!t109) w h cs) (tiWord_ev u) (hgo2 _ rfl hb)) fun k => if_pos rfl
  exact Ev.congr (Ev.bind (f := fun k t108 => if t108 = true then ((spec_tiWord.f k u).bind fun t109 => (spec_AreSameWords.j0 k s u (!t109) w h cs)) else (spec_AreSameWords.j0 k s u true w h cs)) (tiWord_ev s) (hgo _ rfl)) fun k => if_pos rfl
theorem implAreSameWords_ev (t s u : ByteArray) (ht0 : t.size ≤ 1048576) (hs0 : s.size ≤ 1048576) (hu0 : u.size ≤ 1048576) : Ev (fun k => impl_AreSameWords.f k t s u) (AreSameWordsR t s u) := by
 refine Ev.bind (f := fun k (bt101 : ByteArray × Bool) => ((impl_TiltWord.f k t u).bind fun bt103 => (if bt101.2 = true then (if bt103.2 = true then (some ((bt101.1.toList == bt103.1.toList), bt103.2)) else (some (false, bt103.2))) else (some (false, false))))) (implTiltWord_ev t s ht0 hs0) (Ev.bind (f := fun _ (bt103 : ByteArray × Bool) => (if (TiltWordR t s).2 = true then (if bt103.2 = true then (some (((TiltWordR t s).1.toList == bt103.1.toList), bt103.2)) else (some (false, bt103.2))) else (some (false, false)))) (implTiltWord_ev t u ht0 hu0) (Ev.const ?_))
 unfold TiltWordR AreSameWordsR
 rcases ht : trayOf t with _ | ⟨w, h, cs⟩
 ·simp
 ·by_cases h1 : wordB s = true
  ·by_cases h2 : wordB u = true
   ·simp only [h1, h2, if_true, and_self]
   ·have h2 : wordB u = false := by simpa using h2
    simp [h1, h2]
  ·have h1 : wordB s = false := by simpa using h1
   simp [h1]
theorem lawAreSameWords_ev (t : ByteArray) (s : ByteArray) (u : ByteArray) : Ev (fun k => laws_FnExactAreSameWords.f k t s u) true := by
 by_cases ht : t.size ≤ 1048576
 case neg =>
  refine Ev.congr (Ev.const (o := some true) rfl) fun k => ?_
  unfold laws_FnExactAreSameWords.f
  exact if_pos (by omega)
 by_cases hs : s.size ≤ 1048576
 case neg =>
  refine Ev.congr (Ev.const (o := some true) rfl) fun k => ?_
  unfold laws_FnExactAreSameWords.f
  rw [if_neg (by omega)]
  exact if_pos (by omega)
 by_cases hu : u.size ≤ 1048576
 case neg =>
  refine Ev.congr (Ev.const (o := some true) rfl) fun k => ?_
  unfold laws_FnExactAreSameWords.f
  rw [if_neg (by omega)]
  rw [if_neg (by omega)]
  exact if_pos (by omega)
 have hsp := specAreSameWords_ev t s u
 have him := implAreSameWords_ev t s u ht hs hu
 refine Ev.congr (Ev.bind (f := fun k (bt101 : Bool × Bool) => ((impl_AreSameWords.f k t s u).bind fun bt103 => (if (bt103.1 != bt101.1) = true then (some false) else (if (bt103.2 != bt101.2) = true then (some false) else (some true))))) hsp (Ev.bind (f := fun _ (bt103 : Bool × Bool) => (if (bt103.1 != (AreSameWordsR t s u).1) = true then (some false) else (if (bt103.2 != (AreSameWordsR t s u).2) = true then (some false) else (some true)))) him (Ev.const ?_))) fun k => by unfold laws_FnExactAreSameWords.f; rw [if_neg (by omega), if_neg (by omega), if_neg (by omega)]
 rw [bne_self_eq_false, if_neg (by decide), bne_self_eq_false, if_neg (by decide)]
end Go.Proofs.YtcpeldgnabfdmaaGreatDoor.Q
end
