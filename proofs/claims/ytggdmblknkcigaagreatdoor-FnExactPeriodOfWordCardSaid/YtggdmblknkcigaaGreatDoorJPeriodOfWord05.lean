/- Texts of this claim, joined. -/
import Derived.Test.YtggdmblknkcigaaGreatDoorJPeriodOfWord04
import Derived.RangeFuncBox
import Derived.RangeFuncLeaves
import Derived.RangeFuncCalls
import Derived.Shelf.Abstract
import Derived.WalkKit
import Derived.OwnWalkIn
import Derived.TacticsInMore
import Derived.LoopNIn
import Derived.LoopIn
import Derived.Maps.AppendAt
import Derived.Test.YtggdmblknkcigaaGreatDoorJPeriodOfWord01
import Derived.RangeFuncNested
import Derived.RangeFuncBound
import Derived.Test.YtggdmblknkcigaaGreatDoorJPeriodOfWord03
import Derived.Laws.BytesArg
import Derived.Test.YtggdmblknkcigaaGreatDoorJPeriodOfWord02
set_option linter.unusedVariables false
set_option linter.unusedSimpArgs false
set_option linter.unusedSectionVars false
section
namespace Go.Proofs.YtggdmblknkcigaaGreatDoor.Q
open Go.RowKit Go.Proofs.YtggdmblknkcigaaGreatDoorW.PrintWords Go.Proofs.YtggdmblknkcigaaGreatDoorW.PrintLast Go.Proofs.YtggdmblknkcigaaGreatDoorW.PrintMore
set_option linter.unusedSectionVars false
def tiltW (w h : Nat) : List Nat → List Int → List Int
 | [], cs => cs
 | d :: l, cs => tiltW w h l (tiltC w h cs d)
section
variable {w h : Nat} (hw : w ≤ 7) (hh : h ≤ 7) (hs : w * h ≤ 36) (hw1 : 0 < w) (hh1 : 0 < h)
include hw hh hs hw1 hh1
theorem tiltW_len : ∀ (l : List Nat) (cs : List Int), (∀ d ∈ l, d < 4) → cs.length = w * h → (tiltW w h l cs).length = w * h
 | [], _, _, hn => hn
 | d :: l, cs, hl, hn => tiltW_len l _ (fun x hx => hl x (List.mem_cons_of_mem _ hx)) ((tiltC_len hw hh hs (hl d List.mem_cons_self)).trans hn)
theorem tiRun_l0 (s : ByteArray) (hb : s.size ≤ 40 ∧ ∀ (t : Nat) (ht : t < s.data.toList.length), isD s.data.toList[t] = true) : ∀ (m t : Nat) (cs : List Int), t + m = s.size → cs.length = w * h → Ev (fun k => spec_tiRun.l0 k s t w h cs) (w, h, tiltW w h ((s.data.toList.drop t).map dirN) cs)
 | 0, t, cs, ht, hn => by
  have hl := data_length s
  rw [List.drop_eq_nil_of_le (by omega)]
  refine Ev.step (Ev.const (o := some ((w : Int), (h : Int), cs)) rfl) fun k => ?_
  rw [spec_tiRun.l0, if_neg (by omega)]
 | m + 1, t, cs, ht, hn => by
  have hl := data_length s
  have htl : t < s.data.toList.length := by omega
  have hwt : wrap64 ((t : Int) + 1) = ((t + 1 : Nat) : Int) := by have := hb.1; rw [w64 (by omega) (by omega)]; omega
  have hd := hb.2 t htl
  have hd4 := dirN_lt s.data.toList[t]
  have ih := tiRun_l0 s hb m (t + 1) (tiltC w h cs (dirN s.data.toList[t])) (by omega) ((tiltC_len hw hh hs hd4).trans hn)
  have h1 := tiDir_ev (s.extract ((t : Nat) : Int).toNat (((t + 1 : Nat) : Int)).toNat)
  rw [dirI_one (cut_one s t (by omega)), if_pos hd] at h1
  rw [List.drop_eq_getElem_cons htl, List.map_cons]
  refine Ev.step (Ev.bind (f := fun k t103 => ((spec_tiTilt.f k w h cs t103).bind fun bt104 => (spec_tiRun.l0 k s ((t + 1 : Nat) : Int) bt104.1 bt104.2.1 bt104.2.2))) h1 (Ev.bind (f := fun k (bt104 : Int × Int × List Int) => (spec_tiRun.l0 k s ((t + 1 : Nat) : Int) bt104.1 bt104.2.1 bt104.2.2)) (tiTilt_ev hw hh hs hd4 hw1 hh1 hn) ih)) fun k => ?_
  rw [spec_tiRun.l0, if_pos (by omega), if_pos (by omega), hwt, if_pos (by omega), if_pos (by omega)]
theorem tiRun_ev {s : ByteArray} (hb : wordB s = true) {cs : List Int} (hn : cs.length = w * h) : Ev (fun k => spec_tiRun.f k w h cs s) (w, h, tiltW w h (s.data.toList.map dirN) cs) := by
 have h1 := tiRun_l0 hw hh hs hw1 hh1 s (wordB_parts hb) s.size 0 cs (by omega) hn
 rw [List.drop_zero] at h1
 exact h1
theorem tiltedAll_l0 (s : ByteArray) (hb : s.size ≤ 40 ∧ ∀ (t : Nat) (ht : t < s.data.toList.length), isD s.data.toList[t] = true) : ∀ (m t : Nat) (cs : List Int), t + m = s.size → cs.length = w * h → Ev (fun k => impl_tray_tiltedAll.l0 k (bytesOf s) (bytesOf s).length t w h cs) (w, h, tiltW w h ((s.data.toList.drop t).map dirN) cs)
 | 0, t, cs, ht, hn => by
  have hl := data_length s
  have hbl := bytesOf_length s
  rw [List.drop_eq_nil_of_le (by omega)]
  refine Ev.step (Ev.const (o := some ((w : Int), (h : Int), cs)) rfl) fun k => ?_
  rw [impl_tray_tiltedAll.l0, if_neg (by omega)]
 | m + 1, t, cs, ht, hn => by
  have hl := data_length s
  have hbl := bytesOf_length s
  have htl : t < s.data.toList.length := by omega
  have hwt : wrap64 ((t : Int) + 1) = ((t + 1 : Nat) : Int) := by have := hb.1; rw [w64 (by omega) (by omega)]; omega
  have hd := hb.2 t htl
  have hd4 := dirN_lt s.data.toList[t]
  have ih := tiltedAll_l0 s hb m (t + 1) (tiltC w h cs (dirN s.data.toList[t])) (by omega) ((tiltC_len hw hh hs hd4).trans hn)
  rw [List.drop_eq_getElem_cons htl, List.map_cons]
  refine Ev.step (Ev.bind (f := fun k (bt107 : Int × Int × List Int) => (impl_tray_tiltedAll.l0 k (bytesOf s) (bytesOf s).length ((t + 1 : Nat) : Int) bt107.1 bt107.2.1 bt107.2.2)) (tilted_ev hw hh hs hd4 hw1 hh1 hn) ih) fun k => ?_
  rw [impl_tray_tiltedAll.l0, if_pos (by omega), if_pos (by omega), if_pos (by omega), hwt, bytes_rd s t htl, ← (dirN_C hd).2]
  rfl
theorem tiltedAll_ev {s : ByteArray} (hb : wordB s = true) {cs : List Int} (hn : cs.length = w * h) : Ev (fun k => impl_tray_tiltedAll.f k w h cs s) (w, h, tiltW w h (s.data.toList.map dirN) cs) := by
 have h1 := tiltedAll_l0 hw hh hs hw1 hh1 s (wordB_parts hb) s.size 0 cs (by omega) hn
 rw [List.drop_zero] at h1
 refine Ev.congr h1 fun k => ?_
 unfold impl_tray_tiltedAll.f convB.f
 rw [if_pos (by have := (wordB_parts hb).1; omega), Option.bind_some]
 rfl
end
end Go.Proofs.YtggdmblknkcigaaGreatDoor.Q
end
section
namespace Go.Proofs.YtggdmblknkcigaaGreatDoor.Q
open Go.RowKit Go.Shelf Go.Proofs.YtggdmblknkcigaaGreatDoorW.PrintWords Go.Proofs.YtggdmblknkcigaaGreatDoorW.PrintLast Go.Proofs.YtggdmblknkcigaaGreatDoorW.PrintMore
attribute [local go_sem] Oper.semAt_some
def Kp2 (s3 s4 : Nat) (W W' : World) : Prop := W'.heap[s3]? = W.heap[s3]? ∧ W'.heap[s4]? = W.heap[s4]?
theorem Kp2.trans {s3 s4 : Nat} {A B C : World} (h : Kp2 s3 s4 A B) (k : Kp2 s3 s4 B C) : Kp2 s3 s4 A C := ⟨k.1.trans h.1, k.2.trans h.2⟩
theorem Kp2.refl {s3 s4 : Nat} {A : World} : Kp2 s3 s4 A A := ⟨rfl, rfl⟩
theorem range_snoc (k : Nat) : List.range (k + 1) = List.range k ++ [k] := List.range_succ
set_option maxRecDepth 100000 in
set_option maxHeartbeats 4000000 in
theorem chunk1_in (F : Fence) (n : Nat) (hf : F.fn 66) (hro : F.round = none) (hn : 1 ≤ n) (l Bs Bn b off len cap c m : Nat) (hc1 : 1 ≤ c) (hlen : len = m * c) (hsm : len ≤ 1000) (hcap : len ≤ cap) (J Jx : List Nat → World → Prop)
  (hJd : ∀ s W, J s W → J s W.drew)
  (hY : ∀ pre x W, J pre W → x < m → pre.length < m → YieldAt F (n - 1) Tryz.prog l #[.slice (some ⟨b, off + x * c, none⟩) c c] W fun e W' =>
   (e = .returned (.bool true) ∧ J (pre ++ [x]) W' ∧ Kp2 Bs Bn W W') ∨ (e = .returned (.bool false) ∧ Jx (pre ++ [x]) W'))
  (W : World) (hBs : W.heap[Bs]? = some (.cells #[.slice (some ⟨b, off, none⟩) len cap] 31 (0, 0))) (hBn : W.heap[Bn]? = some (.cells #[.int .i64 c] 3 (0, 0))) (h0 : J [] W) :
  CallsIn F n Tryz.prog 66 #[.func (.yield l) #[] #[], .pointer (some ⟨Bs, 0, none⟩), .pointer (some ⟨Bn, 0, none⟩)] W fun e W' => (∃ v, e = .returned v) ∧
   ((∃ ys, ys = List.range m ∧ J ys W') ∨ (∃ pre, (∃ k, k ≤ m ∧ pre = List.range k) ∧ Jx pre W')) := by
 refine callsIn_of_wp Tryz.func66 rfl hf ?_ hro
 simp only [Tryz.ntmps66, List.size_toArray, List.length_cons, List.length_nil, Nat.reduceAdd, Nat.reduceSub, Array.replicate_succ, Array.replicate_zero, List.push_toArray, List.append_toArray, List.nil_append, List.cons_append]
 gi_wp2
 have HL := Aside0.mk hlen
 clear hlen
 gi_loopw [4] (fun i wr => ∃ k q : Nat, Aside0 (k ≤ m ∧ q = k * c) ∧ i = .int .i64 (q : Int) ∧ J (List.range k) wr ∧ Kp2 Bs Bn W wr)
  (fun i _ => len - (intOf i).toNat)
 case atStart => exact ⟨0, 0, ⟨Nat.zero_le _, by simp⟩, by simp, h0, Kp2.refl⟩
 case round =>
  obtain ⟨k, q, HK, rfl, hJs, hnx⟩ := hrel
  have hs := hnx.1.trans hBs
  have hnn := hnx.2.trans hBn
  have cs : wr.cell? ⟨Bs, 0, none⟩ = some (.slice (some ⟨b, off, none⟩) len cap) := (blk_cell hs 0).trans rfl
  have cn : wr.cell? ⟨Bn, 0, none⟩ = some (.int .i64 c) := (blk_cell hnn 0).trans rfl
  by_cases hlt : k < m
  ·have hkc : q + c ≤ len := by rw [HL.out, HK.out.2, ← Nat.succ_mul]; exact Nat.mul_le_mul_right c hlt
   have c1 : decide ((q : Int) < (len : Int)) = true := decide_eq_true (by omega)
   have hmx : Tryz.prog.follows .mixedOrders = true := by kernel_rfl
   obtain ⟨fn, tmps, assign, body, hy, hR⟩ := hY _ k wr.drew (hJd _ _ hJs) hlt (by rw [List.length_range]; exact hlt)
   rw [← HK.out.2] at hy
   have hm1 : min (c : Int) ((len - q : Nat) : Int) = (c : Int) := by omega
   have hm2 : ((q : Int) + (c : Int)).toNat - q = c := by omega
   have hm3 : cap ≠ q := by omega
   have HKC := Aside0.mk hkc
   have HR := Aside0.mk hR
   clear hs hnn hJs hkc hR hY
   gi_wp2
   gi_region
   all_goals gi_wp2
   all_goals (try go_bits)
   all_goals
    refine HR.out.mono ?_
    rintro e W3 (⟨rfl, hJ3, hk3⟩ | ⟨rfl, hJx3⟩)
    ·have hnx3 : Kp2 Bs Bn W W3 := hnx.trans hk3
     have cn3 : W3.cell? ⟨Bn, 0, none⟩ = some (.int .i64 c) := (blk_cell (hnx3.2.trans hBn) 0).trans rfl
     gi_wp2
     go_roundw
     case rel => exact ⟨k + 1, q + c, ⟨by omega, by rw [HK.out.2, Nat.succ_mul]⟩, by simp, by rw [range_snoc]; exact hJ3, hnx3⟩
     case measure =>
      have := HKC.out
      simp [intOf]
      omega
    ·gi_wp2
     refine bodyPost_ret (results_none rfl _ _ _) rfl ?_
     exact ⟨⟨_, rfl⟩, .inr ⟨_, ⟨k + 1, by omega, (range_snoc k).symm⟩, hJx3⟩⟩
  ·have hkm : k = m := by have := HK.out.1; omega
   subst hkm
   have hql : q = len := by rw [HL.out, HK.out.2]
   subst hql
   have c1 : decide ((q : Int) < (q : Int)) = false := decide_eq_false (by omega)
   gi_wp2
   go_end0
   exact ⟨⟨_, rfl⟩, .inl ⟨_, rfl, hJs⟩⟩
end Go.Proofs.YtggdmblknkcigaaGreatDoor.Q
end
section
namespace Go.Proofs.YtggdmblknkcigaaGreatDoor.Q
open Go.RowKit Go.Shelf Go.Proofs.YtggdmblknkcigaaGreatDoorW.PrintWords Go.Proofs.YtggdmblknkcigaaGreatDoorW.PrintLast Go.Proofs.YtggdmblknkcigaaGreatDoorW.PrintMore
attribute [local go_sem] Oper.semAt_some
set_option maxRecDepth 100000 in
set_option maxHeartbeats 4000000 in
theorem chunk_in (F : Fence) (n : Nat) (hf : F.fn 35) (hro : F.round = none) (A : Option Addr) (len cap : Nat) (c : Int) (hc : 1 ≤ c) (w : World) :
  CallsIn F n Tryz.prog 35 #[.slice A len cap, .int .i64 c] w fun e w' => e = .returned (.func (.func 66) #[] #[.pointer (some ⟨w.heap.size, 0, none⟩), .pointer (some ⟨w.heap.size + 1, 0, none⟩)]) ∧
   w' = (w.alloc (.cells #[.slice A len cap] 31)).alloc (.cells #[.int .i64 c] 3) := by
 refine callsIn_of_wp Tryz.func35 rfl hf ?_ hro
 simp only [Tryz.ntmps35, List.size_toArray, List.length_cons, List.length_nil, Nat.reduceAdd, Nat.reduceSub, Array.replicate_succ, Array.replicate_zero, List.push_toArray, List.append_toArray, List.nil_append, List.cons_append]
 have c1 : decide (c < 1) = false := decide_eq_false (by omega)
 gi_wp2
 go_ret
 exact ⟨rfl, rfl⟩
theorem chunk_stops (F : Fence) (n : Nat) (hf : F.fn 66) (hro : F.round = none) (hn : 1 ≤ n) (Bs Bn b off len cap c m : Nat) (hc1 : 1 ≤ c) (hlen : len = m * c) (hsm : len ≤ 1000) (hcap : len ≤ cap) (w : World)
  (hBs : w.heap[Bs]? = some (.cells #[.slice (some ⟨b, off, none⟩) len cap] 31 (0, 0))) (hBn : w.heap[Bn]? = some (.cells #[.int .i64 c] 3 (0, 0))) :
  SeqStopsK F n Tryz.prog 66 #[.pointer (some ⟨Bs, 0, none⟩), .pointer (some ⟨Bn, 0, none⟩)] (fun x : Fin m => #[Value.slice (some ⟨b, off + x.val * c, none⟩) c c]) (Kp2 Bs Bn) (fun ys => ys.map Fin.val = List.range m) (fun _ => True) m w := fun l J Jx W hW hJ _ hY h0 => by
 refine (chunk1_in F n hf hro hn l Bs Bn b off len cap c m hc1 hlen hsm hcap (fun pre W => ∃ ys : List (Fin m), ys.map Fin.val = pre ∧ J ys W) (fun pre W => ∃ ys : List (Fin m), Jx ys W) ?_ ?_ W ((hW.block Bs (blk_lt hBs)).trans hBs) ((hW.block Bn (blk_lt hBn)).trans hBn) ⟨[], rfl, h0⟩).mono ?_
 ·rintro s W1 ⟨ys, e, hs⟩
  exact ⟨ys, e, hJ ys W1 W1.drew none hs ⟨rfl, rfl, rfl, Nat.le_refl _, fun _ _ _ => rfl⟩ (fun r e => by cases e)⟩
 ·rintro pre x W1 ⟨ys, rfl, hs⟩ hx hl
  obtain ⟨fn, tmps, assign, body, hy, hR⟩ := hY ys ⟨x, hx⟩ W1 hs (by rw [List.length_map] at hl; exact hl)
  refine ⟨fn, tmps, assign, body, hy, hR.mono ?_⟩
  rintro e W' (⟨rfl, h1, h2⟩ | ⟨rfl, h1⟩)
  ·exact .inl ⟨rfl, ⟨_, by rw [List.map_append]; rfl, h1⟩, h2⟩
  ·exact .inr ⟨rfl, _, h1⟩
 ·rintro e W' ⟨he, ⟨ys, rfl, zs, e2, hj⟩ | ⟨pre, _, zs, hj⟩⟩
  ·exact ⟨he, .inl ⟨zs, e2, hj⟩⟩
  ·exact ⟨he, .inr ⟨zs, trivial, hj⟩⟩
def rowS (l : List Int) (c k : Nat) : ByteArray := strOfNums ((l.drop (k * c)).take c)
def impl_tray_text.f (w h : Int) (l : List Int) : Option ByteArray :=
 if 1 ≤ w ∧ 1 ≤ l.length ∧ l.length ≤ 1000 ∧ l.length = l.length / w.toNat * w.toNat then strings_Join.f ((List.range (l.length / w.toNat)).map (rowS l w.toNat)) ⟨#[47]⟩ else none
theorem row_len (l : List Int) (c k m : Nat) (hl : l.length = m * c) (hk : k < m) : ((l.drop (k * c)).take c).length = c := by
 rw [List.length_take, List.length_drop, hl]
 have : k * c + c ≤ m * c := by rw [← Nat.succ_mul]; exact Nat.mul_le_mul_right c hk
 omega
theorem row_at (l : List Int) (c k i : Nat) (hi : i < c) : ((l.drop (k * c)).take c).getD i 0 = l.getD (k * c + i) 0 := by
 rw [List.getD_eq_getElem?_getD, List.getElem?_take, if_pos hi, List.getElem?_drop, List.getD_eq_getElem?_getD]
theorem five {w X : World} {A B C D E : Obj} (h : X = ((((w.alloc A).alloc B).alloc C).alloc D).alloc E) : X.heap.size = w.heap.size + 5 ∧ Below w.heap.size w X ∧ X.heap[w.heap.size]? = some A ∧ X.heap[w.heap.size + 1]? = some B ∧ X.heap[w.heap.size + 1 + 1]? = some C ∧ X.heap[w.heap.size + 1 + 1 + 1]? = some D ∧ X.heap[w.heap.size + 1 + 1 + 1 + 1]? = some E := by
 subst h
 have g1 : ∀ (W : World) (o : Obj) (i : Nat) (x : Obj), W.heap[i]? = some x → (W.alloc o).heap[i]? = some x := fun W o i x hx => (Below.heap_alloc W o i (blk_lt hx)).trans hx
 have n1 := World.alloc_heap_new w A
 have n2 := World.alloc_heap_new (w.alloc A) B
 have n3 := World.alloc_heap_new ((w.alloc A).alloc B) C
 have n4 := World.alloc_heap_new (((w.alloc A).alloc B).alloc C) D
 have n5 := World.alloc_heap_new ((((w.alloc A).alloc B).alloc C).alloc D) E
 simp only [World.size_alloc] at n2 n3 n4 n5
 exact ⟨by simp only [World.size_alloc], ((((((Below.refl _ w).alloc (Nat.le_refl _) _).alloc (by simp only [World.size_alloc]; omega) _).alloc (by simp only [World.size_alloc]; omega) _).alloc (by simp only [World.size_alloc]; omega) _).alloc (by simp only [World.size_alloc]; omega) _), g1 _ _ _ _ (g1 _ _ _ _ (g1 _ _ _ _ (g1 _ _ _ _ n1))), g1 _ _ _ _ (g1 _ _ _ _ (g1 _ _ _ _ n2)), g1 _ _ _ _ (g1 _ _ _ _ n3), g1 _ _ _ _ n4, n5⟩
set_option maxRecDepth 100000 in
set_option maxHeartbeats 8000000 in
theorem text_in (n : Nat) (hn : 3 ≤ n) (a0_0 a0_1 : Int) (b off cap : Nat) (l : List Int) (c m : Nat) (r : ByteArray) (w : World) (hb : b < w.heap.size) (hcell : ∀ j, j < l.length → w.cell? ⟨b, off + j, none⟩ = some (.int .u8 (l.getD j 0))) (hcap : l.length ≤ cap) (hc1 : 1 ≤ c) (h00 : a0_0 = c) (hl : l.length = m * c) (hsm : l.length ≤ 1000)
  (hj : strings_Join.f ((List.range m).map (rowS l c)) ⟨#[47]⟩ = some r) :
  CallsIn Fence.wide n Tryz.prog 19 #[.agg #[.int .i64 a0_0, .int .i64 a0_1, .slice (some ⟨b, off, none⟩) l.length cap]] w fun e w' => e = .returned (.string r) ∧ Below w.heap.size w w' := by
 have hro : Fence.wide.round = none := rfl
 have h1 : 1 ≤ n := by omega
 refine callsIn_of_wp_marks Tryz.func19 rfl trivial ?_ hro
 simp only [Tryz.ntmps19, List.size_toArray, List.length_cons, List.length_nil, Nat.reduceAdd, Nat.reduceSub, Array.replicate_succ, Array.replicate_zero, List.push_toArray, List.append_toArray, List.nil_append, List.cons_append]
 have hu := Tryz.underlying41
 subst h00
 have HL := Aside0.mk hl
 have HCL := Aside0.mk hcell
 have HJ := Aside0.mk hj
 clear hl hcell hj
 gi_wp2_with (refine ⟨trivial, ?_⟩; gi_at_call 35; refine (chunk_in Fence.wide (n - 1) trivial hro _ _ _ _ (by omega) _).mono ?_; rintro e w' ⟨he, hw⟩; simp only [World.size_alloc] at he; subst he; (have HW := Aside0.mk hw); clear hw)
 obtain ⟨hsz, hB0, bA, bB, bC, bD, bE⟩ := five HW.out
 clear HW
 have hI : OwnFrom w'.heap.size (fun (pre : List (Fin m)) W => (∃ v, Boxed W (w.heap.size + 1 + 1) 36 v ∧ W.ownsRow w.heap.size 9 1 v pre.length (pre.map fun k => Value.string (rowS l c k.val)) ∧ True) ∧ (Boxed W (w.heap.size + 1 + 1 + 1) 31 (.slice (some ⟨b, off, none⟩) l.length cap) ∧ Boxed W (w.heap.size + 1 + 1 + 1 + 1) 3 (.int .i64 c)) ∧ Below w.heap.size w W) :=
  OwnFrom.and (Own.from (holdsRow_own w.heap.size (w.heap.size + 1 + 1) 36 9 1 (fun pre : List (Fin m) => pre.length) (fun pre => pre.map fun k => Value.string (rowS l c k.val)) (fun _ _ => True)) _)
   (OwnFrom.and (OwnFrom.and (Own.from (boxed_own (w.heap.size + 1 + 1 + 1) 31 (fun _ : List (Fin m) => Value.slice (some ⟨b, off, none⟩) l.length cap)) _) (Own.from (boxed_own (w.heap.size + 1 + 1 + 1 + 1) 3 (fun _ : List (Fin m) => Value.int .i64 c)) _)) (ownFrom_below (Nat.le_refl _) (by omega)))
 have row0 : w'.ownsRow w.heap.size 9 1 (.slice (some ⟨w.heap.size + 1, 0, none⟩) 0 0) 0 [] := ⟨rfl, .inr ⟨w.heap.size + 1, 0, #[], rfl, by omega, bB, Nat.le_refl _, Nat.zero_le _, rfl, rfl⟩⟩
 refine wpIn_rangeFunc_ownG hro h1 (gf := 66) (lb := #[.pointer (some ⟨w.heap.size + 1 + 1 + 1, 0, none⟩), .pointer (some ⟨w.heap.size + 1 + 1 + 1 + 1, 0, none⟩)]) rfl trivial (enters_of Tryz.func66 (by kernel_rfl) rfl)
  (chunk_stops Fence.wide (n - 1) trivial hro (by omega) _ _ b off l.length cap c m hc1 HL.out hsm hcap w' bD bE) Kp2.trans (fun W i o o' hi _ _ _ => ⟨World.putObj_heap_other (fun e => by omega), World.putObj_heap_other (fun e => by omega)⟩) (Below.refl _ _) (fun _ => rfl)
  _ (fun _ _ _ => False) hI (fun _ _ _ _ _ hs _ _ => hs) ⟨⟨_, bC, row0, trivial⟩, ⟨bD, bE⟩, hB0⟩
  (fun x => { tmps := #[.agg #[.int .i64 c, .int .i64 a0_1, .slice (some ⟨b, off, none⟩) l.length cap], .pointer (some ⟨w.heap.size, 0, none⟩), .string ⟨#[]⟩, .pointer (some ⟨w.heap.size + 1 + 1, 0, none⟩), .slice (some ⟨b, off + x.val * c, none⟩) c c, .slice (some ⟨w.heap.size + 1, 0, none⟩) 0 0, .pointer (some ⟨w.heap.size, 2, none⟩), .slice (some ⟨b, off, none⟩) l.length cap, .pointer (some ⟨w.heap.size, 0, none⟩), .int .i64 c, .func (.func 66) #[] #[.pointer (some ⟨w.heap.size + 1 + 1 + 1, 0, none⟩), .pointer (some ⟨w.heap.size + 1 + 1 + 1 + 1, 0, none⟩)], .slice (some ⟨b, off + x.val * c, none⟩) c c, undef, undef, undef, undef, undef, undef, undef], defers := [] }) ?assign ?body ?done ?stop
 case assign =>
  intro i x W K hK
  gi_wp2
  exact hK
 case body =>
  rintro i pre x W ⟨⟨v, hv, hrow, _⟩, ⟨hD, hE⟩, hB⟩ hlt
  have hc := hv.cell
  have hrl := row_len l c x.val m HL.out x.isLt
  have hcv := run_convert_bytes_arg (P := Tryz.prog) W 31 5 Tryz.underlying31 Tryz.underlying5 b (off + x.val * c) c c ((l.drop (x.val * c)).take c) hrl (fun j hj => by
   rw [row_at l c x.val j hj, Nat.add_assoc]
   exact (hB.cell (p := ⟨b, off + (x.val * c + j), none⟩) hb).trans (HCL.out (x.val * c + j) (by
    rw [HL.out]
    have : x.val * c + c ≤ m * c := by rw [← Nat.succ_mul]; exact Nat.mul_le_mul_right c x.isLt
    omega))) 9 Tryz.underlying9
  rw [show strOfNums ((l.drop (x.val * c)).take c) = rowS l c x.val from rfl] at hcv
  obtain ⟨i0, hi, hz0, hz1, hz2⟩ := info_parts info9
  have hpl : pre.length + 1 ≤ 1000 := by
   have : m ≤ m * c := Nat.le_mul_of_pos_right m hc1
   have := HL.out
   omega
  have HD := Aside0.mk hD
  have HE := Aside0.mk hE
  clear hD hE hrl
  gi_wp2_with (gi_at_builtin; refine wpListIn_append_own _ rfl _ _ 36 rfl w.heap.size 9 i0 (.string ⟨#[]⟩) 1 16 Tryz.underlying36 hi hz0 hz1 hz2 rfl (by decide) _ _ _ rfl (hrow.alloc _) ⟨W.heap.size, 0, none⟩ 1 1 [.string (rowS l c x.val)] rfl rfl (cell_one_new _ _ _) (by simp [Value.oneCell']) (by simp [maxLen]; omega) (by omega) (by have := hB.size; simp; omega) ?_; intro v' w1 hown' hgrow _; obtain ⟨g', cap', rfl⟩ := ownsRow_succ hown'; obtain ⟨hv1, hv2, hr2, hk2, hb2⟩ := hv.appended (by decide) hrow hB.size (by omega) hown' hgrow; have hc1 := hv1.cell; have hf1 := hv1.frozen)
  have hD2 := ((HD.out.alloc (.cells #[.string (rowS l c x.val)] 9)).kept hgrow (HD.out.not_row (by decide) hrow)).other (B' := w.heap.size + 1 + 1) (by omega) (.slice (some ⟨g', 0, none⟩) (pre.length + 1) cap')
  have hE2 := ((HE.out.alloc (.cells #[.string (rowS l c x.val)] 9)).kept hgrow (HE.out.not_row (by decide) hrow)).other (B' := w.heap.size + 1 + 1) (by omega) (.slice (some ⟨g', 0, none⟩) (pre.length + 1) cap')
  exact ⟨hk2.from _, ⟨hD2.trans HD.out.symm, hE2.trans HE.out.symm⟩, ⟨_, hv2, by simpa using hr2, trivial⟩, ⟨hD2, hE2⟩, hB.trans hb2⟩
 case done =>
  rintro D ys W hD hS ⟨⟨v, hv, hrow, _⟩, _, hB⟩ hK
  have hc := hv.cell
  have hrows : (ys.map fun k => Value.string (rowS l c k.val)) = ((List.range m).map (rowS l c)).map Value.string := by
   rw [← hS, List.map_map, List.map_map]
   rfl
  have hyl : ys.length = ((List.range m).map (rowS l c)).length := by
   have := congrArg List.length hS
   simpa using this
  rw [hrows, hyl] at hrow
  have hjn := HJ.out
  generalize (List.range m).map (rowS l c) = L at hrow hjn
  have HJ2 := Aside0.mk hjn
  clear HJ hjn
  have hR : Kd.R Kd.string 9 W w.heap.size (fun _ => True) v L := Kd.R_of_own (enc := Value.string) hrow (fun _ _ => trivial)
  obtain ⟨A, cp, rfl, hlc, hC⟩ := Kd.R_reads hR
  have HK := Aside0.mk hK
  have HB := Aside0.mk hB
  have HCC := Aside0.mk hC
  have HLC := Aside0.mk hlc
  clear hrows hyl hrow hR hK hB hC hlc hv hS
  gi_wp2_with (refine ⟨trivial, ?_⟩; gi_at_call 34; refine (callsIn_wide.2 (strings_Join.calls A cp L ⟨#[47]⟩ r _ HCC.out HLC.out HJ2.out)).mono ?_; rintro e W2 ⟨rfl, hb2⟩)
  have hK2 := (hb2.block D (blk_lt HK.out)).trans HK.out
  refine ⟨by simp, .inl ⟨_, _, rfl, run_takeDeferred hK2, ?_⟩⟩
  exact ⟨_, results_tmp rfl _ _ _, rfl, (below_then HB.out HB.out.size hb2).trans (belowK_b (w := w) (Nat.le_refl _) W2 D _ _ (by omega) hK2 rfl rfl)⟩
 case stop =>
  rintro D c' pre W _ _ h _
  exact h.elim
theorem impl_tray_text.calls (a0_0 a0_1 : Int) (A0_2 : Option Addr) (c0_2 : Nat) (l0_2 : List Int) (r : ByteArray) (w : World) (hr0_2 : Kd.C (Kd.int .u8) w A0_2 l0_2.length l0_2) (hc0_2 : l0_2.length ≤ c0_2) (h : impl_tray_text.f a0_0 a0_1 l0_2 = some r) :
  Calls Tryz.prog 19 #[.agg #[.int .i64 a0_0, .int .i64 a0_1, .slice A0_2 l0_2.length c0_2]] w fun e w' => e = .returned (.string r) ∧ Below w.heap.size w w' := by
 unfold impl_tray_text.f at h
 split at h
 case isFalse => cases h
 rename_i hc
 obtain ⟨h1, h2, h3, h4⟩ := hc
 obtain ⟨b, off, rfl, hb, hcell⟩ := bytes_at hr0_2 h2
 exact callsIn_wide.1 (text_in 3 (Nat.le_refl _) a0_0 a0_1 b off c0_2 l0_2 a0_0.toNat (l0_2.length / a0_0.toNat) r w hb hcell hc0_2 (by omega) (by omega) h4 h3 h)
end Go.Proofs.YtggdmblknkcigaaGreatDoor.Q
end
section
namespace Go.Proofs.YtggdmblknkcigaaGreatDoor.Q
set_option linter.unusedSectionVars false
open Go.RowKit Go.Proofs.YtggdmblknkcigaaGreatDoorW.PrintWords Go.Proofs.YtggdmblknkcigaaGreatDoorW.PrintLast Go.Proofs.YtggdmblknkcigaaGreatDoorW.PrintMore
theorem text_val (w h : Nat) (l : List Int) (hw : 1 ≤ w) (hh : 1 ≤ h) (hs : w * h ≤ 36) (hn : l.length = w * h) : impl_tray_text.f w h l = some (tx l w h) := by
 have hd : l.length / w = h := by rw [hn, Nat.mul_div_cancel_left h (by omega)]
 unfold impl_tray_text.f
 have h1 : 1 ≤ w * h := Nat.mul_pos hw hh
 rw [Int.toNat_natCast, hd, if_pos ⟨by omega, by omega, by omega, by rw [hn, Nat.mul_comm]⟩]
 have h2 : ((List.range h).map (rowS l w)).map (·.data.toList) = (List.range h).map (rowL l w) := by
  rw [List.map_map]
  rfl
 have h4 : h ≤ w * h := Nat.le_mul_of_pos_left h hw
 have h5 := txL_len l w h
 have h6 : h * (w + 1) ≤ 72 := by rw [Nat.mul_add, Nat.mul_one, Nat.mul_comm]; omega
 have h7 : Lib.join (((List.range h).map (rowS l w)).map (·.data.toList)) (⟨#[47]⟩ : ByteArray).data.toList = txL l w h := by
  rw [h2]
  exact jn_join _
 unfold strings_Join.f
 rw [h7, List.length_map, List.length_range, if_pos ⟨by omega, by omega⟩]
 rfl
end Go.Proofs.YtggdmblknkcigaaGreatDoor.Q
end
section
namespace Go.Proofs.YtggdmblknkcigaaGreatDoor.Q
set_option linter.unusedSectionVars false
open Go.RowKit Go.Proofs.YtggdmblknkcigaaGreatDoorW.PrintWords Go.Proofs.YtggdmblknkcigaaGreatDoorW.PrintLast Go.Proofs.YtggdmblknkcigaaGreatDoorW.PrintMore
def idxS : List (List UInt8) → List UInt8 → Nat → Option Nat
 | [], _, _ => none
 | x :: l, t, i => if x = t then some i else idxS l t (i + 1)
theorem idxS_snoc : ∀ (L : List (List UInt8)) (t x : List UInt8) (i : Nat), idxS (L ++ [t]) x i = match idxS L x i with | some j => some j | none => if t = x then some (i + L.length) else none
 | [], t, x, i => rfl
 | y :: L, t, x, i => by
  rw [List.cons_append, idxS, idxS]
  by_cases e : y = x
  ·rw [if_pos e, if_pos e]
  ·rw [if_neg e, if_neg e, idxS_snoc L t x (i + 1), List.length_cons, show i + 1 + L.length = i + (L.length + 1) by omega]
theorem idxS_lt : ∀ (L : List (List UInt8)) (x : List UInt8) (i j : Nat), idxS L x i = some j → i ≤ j ∧ j < i + L.length
 | [], _, _, _, h => by cases h
 | y :: L, x, i, j, h => by
  rw [idxS] at h
  rw [List.length_cons]
  by_cases e : y = x
  ·rw [if_pos e] at h
   have := Option.some.inj h
   omega
  ·rw [if_neg e] at h
   have := idxS_lt L x (i + 1) j h
   omega
def fS (L : List (List UInt8)) : List UInt8 → Option Int := fun x => (idxS L x 0).map fun i => ((i : Nat) : Int)
theorem fS_none {L : List (List UInt8)} {t : List UInt8} (h : idxS L t 0 = none) : fS L t = none := by
 unfold fS
 rw [h]
 rfl
theorem fS_some {L : List (List UInt8)} {t : List UInt8} {j : Nat} (h : idxS L t 0 = some j) : fS L t = some (j : Int) := by
 unfold fS
 rw [h]
 rfl
theorem fS_snoc {L : List (List UInt8)} {t : List UInt8} (h : idxS L t 0 = none) : (fun x => if x = t then some (L.length : Int) else fS L x) = fS (L ++ [t]) := by
 funext x
 unfold fS
 rw [idxS_snoc]
 by_cases e : x = t
 ·rw [if_pos e, e, h]
  simp
 ·rw [if_neg e]
  cases idxS L x 0 with
  | some j => rfl
  | none =>
   show _ = Option.map _ (if t = x then _ else _)
   rw [if_neg fun e2 => e e2.symm]
def perR (w h : Nat) (l : List Nat) : Nat → List (List UInt8) → List Int → Int × Int × Bool
 | 0, _, _ => (0, 0, false)
 | m + 1, L, cs => match idxS L (tx cs w h).data.toList 0 with
  | some j => ((j : Int), (L.length : Int) - j, true)
  | none => perR w h l m (L ++ [(tx cs w h).data.toList]) (tiltW w h l cs)
end Go.Proofs.YtggdmblknkcigaaGreatDoor.Q
end
section
namespace Go.Proofs.YtggdmblknkcigaaGreatDoor.Q
set_option linter.unusedSectionVars false
open Go.RowKit Go.Proofs.YtggdmblknkcigaaGreatDoorW.PrintWords Go.Proofs.YtggdmblknkcigaaGreatDoorW.PrintLast Go.Proofs.YtggdmblknkcigaaGreatDoorW.PrintMore
theorem keyS : Maps.Keyed Tryz.prog 9 := Maps.string_keyed Tryz.underlying9
structure HoldsS (D : DataW Unit) (f : List UInt8 → Option Int) : Prop where
 map : Maps.IsMap D
 at' : ∀ (x : List UInt8) (z : DataW Unit), D.atKey (.string x) z = match f x with | some c => .lit (lk c) | none => z
 has' : ∀ x : List UInt8, Maps.has D (.string x) = (f x).isSome
theorem HoldsS.made : HoldsS (.map []) fun _ => none := ⟨Maps.isMap_empty, fun _ _ => rfl, fun _ => rfl⟩
def updS (f : List UInt8 → Option Int) (k : List UInt8) (v : Int) : List UInt8 → Option Int := fun x => if x = k then some v else f x
theorem HoldsS.put {D : DataW Unit} {f : List UInt8 → Option Int} (h : HoldsS D f) (k : List UInt8) (v : Int) : HoldsS (D.put (.string k) (.lit (lk v))) (updS f k v) := by
 have hk : WideAt.IsKeyLit (.string k) := by simp [WideAt.IsKeyLit]
 refine ⟨h.map.put _ _, fun x z => ?_, fun x => ?_⟩
 ·unfold updS
  by_cases e : x = k
  ·rw [if_pos e, e, Maps.atKey_put_same h.map hk]
  ·rw [if_neg e, Maps.atKey_put_other (fun e2 => e (by injection e2)), h.at']
 ·unfold updS
  by_cases e : x = k
  ·rw [if_pos e, e, Maps.has_put_same h.map hk]
   rfl
  ·rw [if_neg e, Maps.has_put_other (fun e2 => e (by injection e2)), h.has']
def MPS (w : World) (b n : Nat) (f : List UInt8 → Option Int) : Prop := ∃ D : DataW Unit, w.ownsMap Tryz.prog 9 PE b n D ∧ HoldsS D f
theorem MPS.made (w : World) : MPS (w.alloc (.map #[] 0)) w.heap.size 0 fun _ => none := ⟨_, World.ownsMap_made w _ _ _, HoldsS.made⟩
theorem MPS.lt {w : World} {b n : Nat} {f : List UInt8 → Option Int} (h : MPS w b n f) : b < w.heap.size := by
 obtain ⟨D, h1, _⟩ := h
 exact h1.lt
theorem MPS.kept {w w' : World} {b n : Nat} {f : List UInt8 → Option Int} {row : Option Nat} (h : MPS w b n f) (hg : w.grownBy w' row) (hne : some b ≠ row) : MPS w' b n f := by
 obtain ⟨D, h1, h2⟩ := h
 exact ⟨D, h1.kept hg hne, h2⟩
theorem MPS.below {w w' : World} {b n : Nat} {f : List UInt8 → Option Int} (h : MPS w b n f) (hb : Below w.heap.size w w') : MPS w' b n f := h.kept (grown_of_below hb none) (by simp)
theorem MPS.set {w : World} {b n g : Nat} {f : List UInt8 → Option Int} (h : MPS w b n f) (hne : b ≠ g) (i : Nat) (v : Value) : MPS (w.setCell ⟨g, i, none⟩ v) b n f := by
 obtain ⟨D, ⟨es, clock, hb, r⟩, h2⟩ := h
 refine ⟨D, ⟨es, clock, ?_, r⟩, h2⟩
 rw [← hb]
 exact Below.heap_setCell w ⟨g, i, none⟩ v b hne
theorem MPS.nc {w : World} {b n : Nat} {f : List UInt8 → Option Int} (h : MPS w b n f) : NC w b := by
 obtain ⟨D, ⟨es, clock, hb, _⟩, _⟩ := h
 intro c q z e
 rw [hb] at e
 cases e
theorem zeroIS (w : World) : (zeroValue 3).run Tryz.prog w = .ok (.int .i64 0) w := by kernel_rfl
theorem wpList_puts {P : Program} {ops : Array Oper} {rest : List Oper} {o : Oper} {a : Act} {Q : Exit → Act → World → Prop} (hP : P = Tryz.prog) (w : World) (hg : o.guard = none) (m x v : Operand) (t : TypeId) (hop : o.op = .mapUpdate t m x v) (ht : Tryz.prog.underlying t = some (.map 9 3))
  (b n : Nat) (f : List UInt8 → Option Int) (h : MPS w b n f) (hn : n < 1000000) (kx : ByteArray) (c : Int) (hm : a.eval m = .map (some b)) (hx : a.eval x = .string kx) (hv : a.eval v = .int .i64 c) (hb : kx.size ≤ maxLen ∧ 0 ≤ c ∧ c ≤ 1000000)
  (hK : ∀ w', MPS w' b (n + 1) (updS f kx.data.toList c) → w.grownBy w' (some b) → wpList P ops Q rest (a.put o.dst undef) w') : wpList P ops Q (o :: rest) a w := by
 subst hP
 obtain ⟨D, hown, hh⟩ := h
 exact wpList_mapUpdate_own w hg m x v t hop 9 3 keyS ht PE b n D hm hown (by unfold maxLen; omega) _ _ (.string kx.data.toList) hx hv (Go.WideMaps.keyOf_string_mk Tryz.underlying9 hb.1) (.lit (lk c)) [] (pe_int (lk_wf hb.2.1 hb.2.2)) fun w' h1 h2 => hK w' ⟨_, h1, hh.put kx.data.toList c⟩ h2
theorem wpList_looks {P : Program} {ops : Array Oper} {rest : List Oper} {o : Oper} {a : Act} {Q : Exit → Act → World → Prop} (hP : P = Tryz.prog) (w : World) (hg : o.guard = none) (m x : Operand) (t : TypeId) (hop : o.op = .lookup t m x true) (ht : Tryz.prog.underlying t = some (.map 9 3))
  (b n : Nat) (f : List UInt8 → Option Int) (h : MPS w b n f) (kx : ByteArray) (hm : a.eval m = .map (some b)) (hx : a.eval x = .string kx) (hb : kx.size ≤ maxLen)
  (hK : wpList P ops Q rest (a.put o.dst (.tuple #[.int .i64 ((f kx.data.toList).getD 0), .bool (f kx.data.toList).isSome])) w) : wpList P ops Q (o :: rest) a w := by
 subst hP
 obtain ⟨D, hown, hh⟩ := h
 refine wpList_lookup_own_ok_int w hg m x t hop 9 3 .i64 keyS ht Tryz.underlying3 (zeroIS w) b n D hm hown _ (.string kx.data.toList) hx (Go.WideMaps.keyOf_string_mk Tryz.underlying9 hb) fun c hat _ => ?_
 have hc : c = (f kx.data.toList).getD 0 := by
  rw [hh.at'] at hat
  cases e : f kx.data.toList with
  | none =>
   rw [e] at hat
   exact (congrArg (fun d : DataW Unit => match d with | .lit (.int _ c) => c | _ => 0) hat).symm
  | some c' =>
   rw [e] at hat
   exact (congrArg (fun d : DataW Unit => match d with | .lit (.int _ c) => c | _ => 0) hat).symm
 rw [hc, hh.has']
 exact hK
end Go.Proofs.YtggdmblknkcigaaGreatDoor.Q
end
section
namespace Go.Proofs.YtggdmblknkcigaaGreatDoor.Q
set_option linter.unusedSectionVars false
set_option linter.unusedSimpArgs false
open Go.RowKit Go.Proofs.YtggdmblknkcigaaGreatDoorW.PrintWords Go.Proofs.YtggdmblknkcigaaGreatDoorW.PrintLast Go.Proofs.YtggdmblknkcigaaGreatDoorW.PrintMore
theorem wpList_looks_at {P : Program} {ops : Array Oper} {rest : List Oper} {o : Oper} {a : Act} {Q : Exit → Act → World → Prop} (hP : P = Tryz.prog) (w : World) (hg : o.guard = none) (m x : Operand) (t : TypeId) (hop : o.op = .lookup t m x true) (ht : Tryz.prog.underlying t = some (.map 9 3))
  (b n : Nat) (f : List UInt8 → Option Int) (h : MPS w b n f) (kx : ByteArray) (hm : a.eval m = .map (some b)) (hx : a.eval x = .string kx) (hb : kx.size ≤ maxLen) (c : Int) (g : Bool) (hc : (f kx.data.toList).getD 0 = c) (hgg : (f kx.data.toList).isSome = g)
  (hK : wpList P ops Q rest (a.put o.dst (.tuple #[.int .i64 c, .bool g])) w) : wpList P ops Q (o :: rest) a w := by
 subst hc hgg
 exact wpList_looks hP w hg m x t hop ht b n f h kx hm hx hb hK
theorem lt_grow {v : Value} {w w1 : World} {row : Option Nat} (h : ∀ k, v.ownBlock = some k → k < w.heap.size) (hg : w.grownBy w1 row) : ∀ k, v.ownBlock = some k → k < w1.heap.size :=
 fun k hk => Nat.lt_of_lt_of_le (h k hk) hg.size
theorem toList_nil {s : ByteArray} (h : s.toList = []) : s.size = 0 := by
 obtain ⟨⟨l⟩⟩ := s
 rw [ByteArray.toList_mk] at h
 rw [h]
 rfl
def perI (k : Nat) (s : ByteArray) : Nat → Nat → (List UInt8 → Option Int) → Int → Int → List Int → Option (Int × Int × Bool)
 | 0, _, _, _, _, _ => some (0, 0, false)
 | m + 1, i, f, w, h, cs => (impl_tray_text.f w h cs).bind fun t => if t.size ≤ 1048576 then (match f t.data.toList with
  | some c => some (c, wrap64 ((i : Int) - c), true)
  | none => (impl_tray_tiltedAll.f k w h cs s).bind fun g => perI k s m (i + 1) (updS f t.data.toList i) g.1 g.2.1 g.2.2) else none
def impl_PeriodOfWord.f (k : Nat) (a0 a1 : ByteArray) : Option (Int × Int × Bool) :=
 (impl_IsTray.f k a0).bind fun t => if t = true then (impl_IsWord.f a1).bind fun b => if b = true then (if a1.size = 0 then some (0, 0, false) else (impl_read.f a0).bind fun g => perI k a1 201 0 (fun _ => none) g.1 g.2.1 g.2.2) else some (0, 0, false) else some (0, 0, false)
set_option maxHeartbeats 16000000 in
set_option maxRecDepth 100000 in
theorem impl_PeriodOfWord.calls (k : Nat) (a0 a1 : ByteArray) (r1 r2 : Int) (r3 : Bool) (w : World) (hG : GoodW w) (h : impl_PeriodOfWord.f k a0 a1 = some (r1, r2, r3)) :
  Calls Tryz.prog 6 #[.string a0, .string a1] w fun e w' => e = .returned (.tuple #[.int .i64 r1, .int .i64 r2, .bool r3]) ∧ Below w.heap.size w w' := by
 unfold impl_PeriodOfWord.f at h
 have HG := Aside0.mk hG
 clear hG
 obtain ⟨t, ht, h⟩ := Option.bind_eq_some_iff.1 h
 have HT := Aside0.mk ht
 clear ht
 cases t with
 | false =>
  rw [if_neg Bool.false_ne_true] at h
  simp only [Option.some.injEq, Prod.mk.injEq] at h
  obtain ⟨rfl, rfl, rfl⟩ := h
  go_enter Tryz.func6, Tryz.ntmps6
  go_wp2_with (first
   | (go_at_call 16; refine (impl_IsTray.calls k a0 false _ HG.out HT.out).mono ?_; rintro e w1 ⟨rfl, hb1⟩; (have HB1 := Aside0.mk hb1); clear hb1))
  go_ret3
  exact ⟨rfl, HB1.out⟩
 | true =>
  rw [if_pos rfl] at h
  obtain ⟨b, hb, h⟩ := Option.bind_eq_some_iff.1 h
  have HW := Aside0.mk hb
  clear hb
  cases b with
  | false =>
   rw [if_neg Bool.false_ne_true] at h
   simp only [Option.some.injEq, Prod.mk.injEq] at h
   obtain ⟨rfl, rfl, rfl⟩ := h
   go_enter Tryz.func6, Tryz.ntmps6
   go_wp2_with (first
    | (go_at_call 16; refine (impl_IsTray.calls k a0 true _ HG.out HT.out).mono ?_; rintro e w1 ⟨rfl, hb1⟩; (have HB1 := Aside0.mk hb1); clear hb1)
    | (go_at_call 17; refine (impl_IsWord.calls a1 false _ HW.out).mono ?_; rintro e w2 ⟨rfl, hb2⟩; (have HB2 := Aside0.mk (below_then HB1.out HB1.out.size hb2)); clear hb2))
   go_ret3
   exact ⟨rfl, HB2.out⟩
  | true =>
   rw [if_pos rfl] at h
   by_cases hz : a1.size = 0
   ·rw [if_pos hz] at h
    simp only [Option.some.injEq, Prod.mk.injEq] at h
    obtain ⟨rfl, rfl, rfl⟩ := h
    obtain rfl : a1 = ⟨#[]⟩ := by
     cases a1 with
     | mk d =>
      rw [show d = #[] from Array.eq_empty_of_size_eq_zero hz]
    go_enter Tryz.func6, Tryz.ntmps6
    go_wp2_with (first
     | (go_at_call 16; refine (impl_IsTray.calls k a0 true _ HG.out HT.out).mono ?_; rintro e w1 ⟨rfl, hb1⟩; (have HB1 := Aside0.mk hb1); clear hb1)
     | (go_at_call 17; refine (impl_IsWord.calls _ true _ HW.out).mono ?_; rintro e w2 ⟨rfl, hb2⟩; (have HB2 := Aside0.mk (below_then HB1.out HB1.out.size hb2)); clear hb2))
    go_ret3
    exact ⟨rfl, HB2.out⟩
   ·rw [if_neg hz] at h
    obtain ⟨⟨gw, gh, gc⟩, hr, hp⟩ := Option.bind_eq_some_iff.1 h
    have HRD := Aside0.mk hr
    have HP := Aside0.mk hp
    have c0 : a1.toList.isEmpty = false := by
     cases e : a1.toList with
     | nil => exact absurd (toList_nil e) hz
     | cons x l => rfl
    clear hr hp h hz
    go_enter Tryz.func6, Tryz.ntmps6
    go_wp2_with (first
     | (go_at_call 16; refine (impl_IsTray.calls k a0 true _ HG.out HT.out).mono ?_; rintro e w1 ⟨rfl, hb1⟩; (have HB1 := Aside0.mk hb1); clear hb1)
     | (go_at_call 17; refine (impl_IsWord.calls a1 true _ HW.out).mono ?_; rintro e w2 ⟨rfl, hb2⟩; (have HB2 := Aside0.mk (below_then HB1.out HB1.out.size hb2)); (have HBM := Aside0.mk HB2.out.size); (have HM2 := Aside0.mk (MPS.made w2)); (have hmm := run_makeMap (P := Tryz.prog) 39 w2); clear hb2)
     | (go_at_call 18; refine (impl_read.calls a0 gw gh gc _ (GoodW.below HG.out (below_alloc HB2.out (.map #[] 0))) HRD.out).mono ?_; rintro e w3 ⟨v3, rfl, ho3, hb3⟩; (have HB3 := Aside0.mk (below_then (below_alloc HB2.out (.map #[] 0)) (below_alloc HB2.out (.map #[] 0)).size hb3)); (have HM3 := Aside0.mk (HM2.out.below hb3)); (obtain ⟨A3, c3, e3⟩ := Kd.V_slice ho3); subst e3; (have HV3 := Aside0.mk (Kd.V_mono (ok' := fun k_ => k_ ≠ w2.heap.size ∧ k_ < w3.heap.size) (Kd.V_bound ho3) (fun k_ hk => ⟨fun e => by have h1 := HM2.out.lt; have h2 := hk.1; omega, hk.2⟩))); clear ho3 hb3 hmm)
     | ((with_reducible refine gate_dst (N := 8) rfl ?_); refine box_event ?hg (N := 8) ?hd (cs := #[.int .i64 0, .int .i64 0, .slice none 0 0]) (t := 41) ?hr ?_; (case hd => rfl); (case hg => rfl); (case hr => first | (go_simp; done) | (go_simp; rfl)); intro go hg w5 hbox hb; (have HGO := Aside0.mk (show w3.heap.size ≤ go by rw [hg]; exact Nat.le_refl _)); (have HB5 := Aside0.mk (below_then HB3.out HB3.out.size hb)); (have HV5 := Aside0.mk (Kd.V_below HV3.out hb)); (have HM5 := Aside0.mk (HM3.out.below hb)); (have HL := Aside0.mk HM3.out.lt); (have HU := Aside0.mk hbox); (have y0 := (blk_cell HU.out 0).trans rfl); (have y1 := (blk_cell HU.out 1).trans rfl); (have y2 := (blk_cell HU.out 2).trans rfl); (have f0 := blk_frozen HU.out 0); (have f1 := blk_frozen HU.out 1); (have f2 := blk_frozen HU.out 2); clear hbox hb hg HV3 HM3)
     | ((with_reducible refine gate_store (t := 41) (p := 8) rfl ?_); refine store_event (t := 41) (p := 8) (v := ?vo) (w1 := (((w5.setCell ⟨go, 0, none⟩ (.int .i64 gw)).setCell ⟨go, 1, none⟩ (.int .i64 gh)).setCell ⟨go, 2, none⟩ (.slice A3 gc.length c3))) ?hg ?ho ?hn ?hr ?_; (case ho => rfl); (case hg => rfl); (case hn => rfl); (case hr => first | (go_simp; done) | (go_simp; rfl)); intro w6 hw; (have HGW := Aside0.mk (Nat.le_trans HB3.out.size HGO.out)); (have HGB := Aside0.mk (show w2.heap.size ≠ go by have h1 := HL.out; have h2 := HGO.out; omega)); (have HB6 := Aside0.mk (show Below w.heap.size w w6 by rw [hw]; exact below_set (below_set (below_set HB5.out HGW.out) HGW.out) HGW.out)); (have HU6 := Aside0.mk (show w6.heap[go]? = some (.cells #[.int .i64 gw, .int .i64 gh, .slice A3 gc.length c3] 41 (0, 0)) by rw [hw]; refine blk_put (cs := #[.int .i64 gw, .int .i64 gh, .slice none 0 0]) ?_ 2 _ rfl; refine blk_put (cs := #[.int .i64 gw, .int .i64 0, .slice none 0 0]) ?_ 1 _ rfl; refine blk_put (cs := #[.int .i64 0, .int .i64 0, .slice none 0 0]) ?_ 0 _ rfl; exact HU.out)); (have HM6 := Aside0.mk (show MPS w6 w2.heap.size 0 (fun _ => none) by rw [hw]; exact ((HM5.out.set HGB.out 0 _).set HGB.out 1 _).set HGB.out 2 _)); (have HV6 := Aside0.mk (show Kd.V (Kd.int .u8) 5 w6 0 (fun k_ => k_ ≠ go ∧ k_ ≠ w2.heap.size) (.slice A3 gc.length c3) gc by rw [hw]; exact Kd.V_mono (Kd.V_far (p := ⟨go, 2, none⟩) (Kd.V_far (p := ⟨go, 1, none⟩) (Kd.V_far (p := ⟨go, 0, none⟩) HV5.out (fun k_ hk => Nat.ne_of_lt (Nat.lt_of_lt_of_le hk.2 HGO.out)) (.int .i64 gw)) (fun k_ hk => Nat.ne_of_lt (Nat.lt_of_lt_of_le hk.2 HGO.out)) (.int .i64 gh)) (fun k_ hk => Nat.ne_of_lt (Nat.lt_of_lt_of_le hk.2 HGO.out)) (.slice A3 gc.length c3)) (fun k_ hk => ⟨Nat.ne_of_lt (Nat.lt_of_lt_of_le hk.2 HGO.out), hk.1⟩))); clear hw HV5 HB5 HU HM5 y0 y1 y2 f0 f1 f2))
    go_loopg [9] 201 (fun gg v9 wr => ∃ (i : Nat) (f : List UInt8 → Option Int) (ww hh : Int) (cs : List Int) (A : Option Addr) (cc : Nat), v9 = .int .i64 i ∧ Aside0 ((i ≤ 201 ∧ 201 - i ≤ gg) ∧ perI k a1 (201 - i) i f ww hh cs = some (r1, r2, r3)) ∧ Aside0 (Kd.V (Kd.int .u8) 5 wr 0 (fun k_ => k_ ≠ go ∧ k_ ≠ w2.heap.size) (.slice A cs.length cc) cs) ∧ Aside0 (wr.heap[go]? = some (.cells #[.int .i64 ww, .int .i64 hh, .slice A cs.length cc] 41 (0, 0))) ∧ Aside0 (MPS wr w2.heap.size i f) ∧ Aside0 (Below w.heap.size w wr))
    case atStart => exact ⟨0, fun _ => none, gw, gh, gc, A3, c3, rfl, ⟨⟨Nat.zero_le _, Nat.le_refl _⟩, HP.out⟩, HV6, HU6, HM6, HB6⟩
    case round =>
     clear HV6 HU6 HM6 HB6 HP HL
     obtain ⟨i, f, ww, hh, cs, A, cc, rfl, HA, HV, HU, HM, HB⟩ := hrel
     by_cases hli : i < 201
     ·have c2 : decide ((i : Int) ≤ 200) = true := decide_eq_true (by omega)
      have hsp := HA.out.2
      rw [show 201 - i = (200 - i) + 1 by omega] at hsp
      unfold perI at hsp
      obtain ⟨tx, htx, hsp⟩ := Option.bind_eq_some_iff.1 hsp
      split at hsp
      case isFalse => cases hsp
      rename_i hsz
      have HTX := Aside0.mk htx
      have HSZ := Aside0.mk (show tx.size ≤ maxLen from Nat.le_trans hsz (by unfold maxLen; omega))
      have HGK := Aside0.mk (show 201 - i ≤ gk ∧ i < 201 from ⟨HA.out.1.2, hli⟩)
      have z0 := (blk_cell HU.out 0).trans rfl
      have z1 := (blk_cell HU.out 1).trans rfl
      have z2 := (blk_cell HU.out 2).trans rfl
      cases hf : f tx.data.toList with
      | some c =>
       rw [hf] at hsp
       simp only [Option.some.injEq, Prod.mk.injEq] at hsp
       obtain ⟨rfl, rfl, rfl⟩ := hsp
       have HF := Aside0.mk hf
       clear htx hsz HA hli hf
       go_wp2_with (first
        | (go_at_call 19; refine (impl_tray_text.calls ww hh A cc cs tx _ (Kd.V_reads' HV.out).2.2 (Kd.V_reads' HV.out).2.1 HTX.out).mono ?_; rintro e w8 ⟨rfl, hb8⟩; (have HM8 := Aside0.mk (HM.out.below hb8)); (have HB8 := Aside0.mk (below_then HB.out HB.out.size hb8)); clear hb8 HV HU HM HB z0 z1 z2)
        | (at_lookup; refine wpList_looks_at rfl _ rfl _ _ 39 rfl Tryz.underlying39 w2.heap.size i f HM8.out tx rfl rfl HSZ.out c true (by rw [HF.out]; rfl) (by rw [HF.out]; rfl) ?_))
       go_ret3
       exact ⟨rfl, HB8.out⟩
      | none =>
       rw [hf] at hsp
       obtain ⟨⟨w9, h9, cs9⟩, hg, hsp⟩ := Option.bind_eq_some_iff.1 hsp
       have HF := Aside0.mk hf
       have HT9 := Aside0.mk hg
       have HNX := Aside0.mk hsp
       clear htx hsz HA hli hf hg hsp
       go_wp2_with (first
        | (go_at_call 19; refine (impl_tray_text.calls ww hh A cc cs tx _ (Kd.V_reads' HV.out).2.2 (Kd.V_reads' HV.out).2.1 HTX.out).mono ?_; rintro e w8 ⟨rfl, hb8⟩; (have HM8 := Aside0.mk (HM.out.below hb8)); (have HV8 := Aside0.mk (Kd.V_below HV.out hb8)); (have HU8 := Aside0.mk ((hb8.block go (blk_lt HU.out)).trans HU.out)); (have HB8 := Aside0.mk (below_then HB.out HB.out.size hb8)); clear hb8 HV HU HM HB z0 z1 z2; (have z0 := (blk_cell HU8.out 0).trans rfl); (have z1 := (blk_cell HU8.out 1).trans rfl); (have z2 := (blk_cell HU8.out 2).trans rfl))
        | (at_lookup; refine wpList_looks_at rfl _ rfl _ _ 39 rfl Tryz.underlying39 w2.heap.size i f HM8.out tx rfl rfl HSZ.out 0 false (by rw [HF.out]; rfl) (by rw [HF.out]; rfl) ?_)
        | (go_at_call 19; refine (impl_tray_text.calls ww hh A cc cs tx _ (Kd.V_reads' HV8.out).2.2 (Kd.V_reads' HV8.out).2.1 HTX.out).mono ?_; rintro e w10 ⟨rfl, hb10⟩; (have HM10 := Aside0.mk (HM8.out.below hb10)); (have HV10 := Aside0.mk (Kd.V_below HV8.out hb10)); (have HU10 := Aside0.mk ((hb10.block go (blk_lt HU8.out)).trans HU8.out)); (have HB10 := Aside0.mk (below_then HB8.out HB8.out.size hb10)); clear hb10 HV8 HU8 HM8 HB8 z0 z1 z2)
        | (at_mapUpdate; refine wpList_puts rfl _ rfl _ _ _ 39 rfl Tryz.underlying39 w2.heap.size i f HM10.out (by have := HGK.out.2; omega) tx (i : Int) rfl rfl rfl ⟨HSZ.out, by omega, by have := HGK.out.2; omega⟩ ?_; intro w11 hm11 hg11; (have HM11 := Aside0.mk hm11); (have HV11 := Aside0.mk (Kd.V_grown HV10.out hg11 (fun k_ hk e => hk.2 (Option.some.inj e)))); (have HU11 := Aside0.mk (blk_turn HU10.out hg11 HM10.out.nc)); (have HB11 := Aside0.mk (HB10.out.grown hg11 HB10.out.size (fun k_ e => by cases e; exact HBM.out))); clear hm11 hg11 HM10 HV10 HU10 HB10; (have z0 := (blk_cell HU11.out 0).trans rfl); (have z1 := (blk_cell HU11.out 1).trans rfl); (have z2 := (blk_cell HU11.out 2).trans rfl))
        | (go_at_call 20; refine (impl_tray_tiltedAll.calls k ww hh (fun k_ => k_ ≠ go ∧ k_ ≠ w2.heap.size) A cc cs a1 w9 h9 cs9 _ HV11.out HT9.out).mono ?_; rintro e w12 ⟨v12, rfl, hv12, hb12⟩; (have HM12 := Aside0.mk (HM11.out.below hb12)); (obtain ⟨A12, c12, e12⟩ := Kd.V_slice hv12); subst e12; (have HLT := Aside0.mk (show go < w11.heap.size ∧ w2.heap.size < w11.heap.size from ⟨blk_lt HU11.out, HM11.out.lt⟩)); (have HV12 := Aside0.mk (show Kd.V (Kd.int .u8) 5 w12 0 (fun k_ => k_ ≠ go ∧ k_ ≠ w2.heap.size) (.slice A12 cs9.length c12) cs9 from Kd.V_mono hv12 (fun k_ hk => hk.elim id (fun h1 => ⟨fun e => by have h2 := HLT.out.1; omega, fun e => by have h2 := HLT.out.2; omega⟩)))); (have HU12 := Aside0.mk ((hb12.block go (blk_lt HU11.out)).trans HU11.out)); (have HB12 := Aside0.mk (below_then HB11.out HB11.out.size hb12)); clear hv12 hb12 HM11 HV11 HU11 HB11 HLT z0 z1 z2; (have y0 := (blk_cell HU12.out 0).trans rfl); (have y1 := (blk_cell HU12.out 1).trans rfl); (have y2 := (blk_cell HU12.out 2).trans rfl); (have f0 := blk_frozen HU12.out 0); (have f1 := blk_frozen HU12.out 1); (have f2 := blk_frozen HU12.out 2)))
       obtain ⟨w13, hw⟩ : ∃ w13, w13 = ((w12.setCell ⟨go, 0, none⟩ (.int .i64 w9)).setCell ⟨go, 1, none⟩ (.int .i64 h9)).setCell ⟨go, 2, none⟩ (.slice A12 cs9.length c12) := ⟨_, rfl⟩
       rw [← hw]
       have HB13 := Aside0.mk (show Below w.heap.size w w13 by rw [hw]; exact below_set (below_set (below_set HB12.out HGW.out) HGW.out) HGW.out)
       have HU13 := Aside0.mk (show w13.heap[go]? = some (.cells #[.int .i64 w9, .int .i64 h9, .slice A12 cs9.length c12] 41 (0, 0)) by rw [hw]; refine blk_put (cs := #[.int .i64 w9, .int .i64 h9, .slice A cs.length cc]) ?_ 2 _ rfl; refine blk_put (cs := #[.int .i64 w9, .int .i64 hh, .slice A cs.length cc]) ?_ 1 _ rfl; refine blk_put (cs := #[.int .i64 ww, .int .i64 hh, .slice A cs.length cc]) ?_ 0 _ rfl; exact HU12.out)
       have HM13 := Aside0.mk (show MPS w13 w2.heap.size (i + 1) (updS f tx.data.toList (i : Int)) by rw [hw]; exact ((HM12.out.set HGB.out 0 _).set HGB.out 1 _).set HGB.out 2 _)
       have HV13 := Aside0.mk (show Kd.V (Kd.int .u8) 5 w13 0 (fun k_ => k_ ≠ go ∧ k_ ≠ w2.heap.size) (.slice A12 cs9.length c12) cs9 by rw [hw]; exact Kd.V_far (p := ⟨go, 2, none⟩) (Kd.V_far (p := ⟨go, 1, none⟩) (Kd.V_far (p := ⟨go, 0, none⟩) HV12.out (fun k_ hk => hk.1) (.int .i64 w9)) (fun k_ hk => hk.1) (.int .i64 h9)) (fun k_ hk => hk.1) (.slice A12 cs9.length c12))
       clear hw HB12 HU12 HV12 HM12
       go_roundg (201 - (i + 1))
       case measure => have := HGK.out; omega
       case rel => exact ⟨i + 1, updS f tx.data.toList (i : Int), w9, h9, cs9, A12, c12, by first | rfl | rw [wrap64_nat i (by have := HGK.out; omega)] | simp, ⟨⟨by have := HGK.out; omega, Nat.le_refl _⟩, by rw [show 201 - (i + 1) = 200 - i by omega]; exact HNX.out⟩, HV13, HU13, HM13, HB13⟩
     ·obtain rfl : i = 201 := by have := HA.out.1.1; omega
      have c2 : decide (((201 : Nat) : Int) ≤ 200) = false := decide_eq_false (by omega)
      have he := HA.out.2
      rw [show 201 - 201 = 0 from rfl] at he
      simp only [perI, Option.some.injEq, Prod.mk.injEq] at he
      obtain ⟨rfl, rfl, rfl⟩ := he
      clear HA hli HV HU HM
      go_wp2
      go_ret3
      exact ⟨rfl, HB.out⟩
end Go.Proofs.YtggdmblknkcigaaGreatDoor.Q
end
section
namespace Go.Proofs.YtggdmblknkcigaaGreatDoor.Q
open Go.RowKit Go.Proofs.YtggdmblknkcigaaGreatDoorW.PrintWords Go.Proofs.YtggdmblknkcigaaGreatDoorW.PrintLast Go.Proofs.YtggdmblknkcigaaGreatDoorW.PrintMore
attribute [local go_sem] max2_int min2_int max_two min_two max_three min_three max_four min_four
set_option linter.unusedVariables false
set_option linter.unusedSimpArgs false
mutual
def spec_PeriodOfWord.j0 : Nat → ByteArray → Bool → Int → Int → List Int → Option (Int × Int × Bool)
 | 0, _, _, _, _, _ => none
 | k + 1, x1, x29, x108000, x108001, x108002 => if x29 = true then (some (0, 0, false)) else (spec_PeriodOfWord.l0 k x1 ([] : List ByteArray) 0 x108000 x108001 x108002)
def spec_PeriodOfWord.l0 : Nat → ByteArray → List ByteArray → Int → Int → Int → List Int → Option (Int × Int × Bool)
 | 0, _, _, _, _, _, _ => none
 | k + 1, x1, x9, x10, x108000, x108001, x108002 => if x10 ≤ 200 then ((spec_tyText.f k x108000 x108001 x108002).bind fun t109 => (spec_PeriodOfWord.l1 k x1 x9 x10 t109 x9 (x9.length : Int) 0 x108000 x108001 x108002)) else (some (0, 0, false))
def spec_PeriodOfWord.l1 : Nat → ByteArray → List ByteArray → Int → ByteArray → List ByteArray → Int → Int → Int → Int → List Int → Option (Int × Int × Bool)
 | 0, _, _, _, _, _, _, _, _, _, _ => none
 | k + 1, x1, x9, x10, x11, x36, x37, x38, x108000, x108001, x108002 => if x38 < x37 then (if 0 ≤ x38 then (if x38 < (x36.length : Int) then (if (rdOf ByteArray.empty x36 x38).toList = x11.toList then (some (x38, wrap64 (x10 - x38), true)) else (spec_PeriodOfWord.l1 k x1 x9 x10 x11 x36 x37 (wrap64 (x38 + 1)) x108000 x108001 x108002)) else (none)) else (none)) else (if x9.length < 8796093022208 then ((spec_tiRun.f k x108000 x108001 x108002 x1).bind fun bt114 => (spec_PeriodOfWord.l0 k x1 (x9 ++ [x11]) (wrap64 (x10 + 1)) bt114.1 bt114.2.1 bt114.2.2)) else (none))
end
def spec_PeriodOfWord.f (k : Nat) (a0 : ByteArray) (a1 : ByteArray) : Option (Int × Int × Bool) := (spec_tyRead.f k a0).bind fun bt101 => (if bt101.2.2.2 = true then ((spec_tiWord.f k a1).bind fun t108 => (if t108 = true then (spec_PeriodOfWord.j0 k a1 (a1.toList == ([] : List UInt8)) bt101.1 bt101.2.1 bt101.2.2.1) else (spec_PeriodOfWord.j0 k a1 true bt101.1 bt101.2.1 bt101.2.2.1))) else (spec_PeriodOfWord.j0 k a1 true bt101.1 bt101.2.1 bt101.2.2.1))
set_option maxHeartbeats 8000000 in
set_option maxRecDepth 100000 in
theorem spec_PeriodOfWord.calls (k : Nat) (a0 : ByteArray) (a1 : ByteArray) (r1 : Int) (r2 : Int) (r3 : Bool) (w : World) (h : spec_PeriodOfWord.f k a0 a1 = some (r1, r2, r3)) :
  Calls Tryz.prog 5 #[.string a0, .string a1] w fun e w' => e = .returned (.tuple #[.int .i64 r1, .int .i64 r2, .bool r3]) ∧ Below w.heap.size w w' := by
 have hu33 := Tryz.underlying33
 have HB := Aside0.mk (Below.refl w.heap.size w)
 have H : ((spec_tyRead.f k a0).bind fun bt101 => (if bt101.2.2.2 = true then ((spec_tiWord.f k a1).bind fun t108 => (if t108 = true then (spec_PeriodOfWord.j0 k a1 (a1.toList == ([] : List UInt8)) bt101.1 bt101.2.1 bt101.2.2.1) else (spec_PeriodOfWord.j0 k a1 true bt101.1 bt101.2.1 bt101.2.2.1))) else (spec_PeriodOfWord.j0 k a1 true bt101.1 bt101.2.1 bt101.2.2.1))) = some (r1, r2, r3) := h
 clear h
 replace H := Option.bind_eq_some_iff.mp H
 obtain ⟨⟨t101, t102, t103, t106⟩, A30, H⟩ := H
 replace H : (if t106 = true then ((spec_tiWord.f k a1).bind fun t108 => (if t108 = true then (spec_PeriodOfWord.j0 k a1 (a1.toList == ([] : List UInt8)) t101 t102 t103) else (spec_PeriodOfWord.j0 k a1 true t101 t102 t103))) else (spec_PeriodOfWord.j0 k a1 true t101 t102 t103)) = some (r1, r2, r3) := H
 have A3 := Aside0.mk A30
 clear A30
 have HC4 := Aside0.mk H
 clear H
 go_enter Tryz.func5, Tryz.ntmps5
 go_upto_region 2 with (first | ((with_reducible refine gate_callee (f := 12) rfl ?_); refine gcall (some 16) Tryz.func12 #[.string a0] rfl ?_; (with_reducible refine (spec_tyRead.calls k a0 t101 t102 t103 t106 _ A3.out).mono ?_); rintro e w5 ⟨v104, rfl, ho0, hb⟩; refine ⟨_, rfl, ?_⟩; have n0_ := Aside0.mk (Kd.R_lower ho0 (below_size (bel HB))); have n1_ := Aside0.mk (below_step (bel HB) hb); clear HB; have HO105 := n0_; have HB := n1_; clear n0_ n1_; (try clear hb); (try clear hb2); (try clear hk); (try clear hi); (try clear ho0)) | ((with_reducible refine gate_dst (N := 7) rfl ?_); refine boxE (N := 7) (cs := #[.int .i64 0, .int .i64 0, .slice none 0 0]) (t := 33) ?_; intro gb107 hg w6 hbox hb; have n0_ := Aside0.mk (Kd.R_below (rch HO105) hb); have n1_ := Aside0.mk (below_step (bel HB) hb); have n2_ := Aside0.mk (hbox); have n3_ := Aside0.mk (gsz hg (bel HB)); have n4_ := Aside0.mk (gsz hg (bel HB)); clear HO105; clear HB; have HO105 := n0_; have HB := n1_; have BK107 := n2_; have GW107 := n3_; have GE107 := n4_; clear n0_ n1_ n2_ n3_ n4_; clear hb hbox hg; have hcz7_0 : w6.cell? ⟨gb107, 0, none⟩ = some (.int .i64 0) := (blk_cell BK107.out 0).trans rfl; have hcz7_1 : w6.cell? ⟨gb107, 1, none⟩ = some (.int .i64 0) := (blk_cell BK107.out 1).trans rfl; have hcz7_2 : w6.cell? ⟨gb107, 2, none⟩ = some (.slice none 0 0) := (blk_cell BK107.out 2).trans rfl; have hfz7_0 := blk_frozen BK107.out 0; have hfz7_1 := blk_frozen BK107.out 1; have hfz7_2 := blk_frozen BK107.out 2; obtain ⟨Ao8, co8, eo8⟩ := Kd.R_slice HO105.out; subst eo8))
 (try simp only [Act.put, List.setIfInBounds_toArray, List.set_cons_zero, List.set_cons_succ])
 go_cut [29] (fun v29 wc => ∃ (kq : Nat) (x29_3 : Bool), v29 = .bool x29_3 ∧ Aside0 (spec_PeriodOfWord.j0 kq a1 x29_3 t101 t102 t103 = some (r1, r2, r3)) ∧ Aside0 (kq ≤ k) ∧ Aside0 (Kd.R (Kd.int .u8) 5 wc w.heap.size (fun _ => True) (.slice Ao8 t103.length co8) t103) ∧ Aside0 (wc.heap[gb107]? = some (.cells #[.int .i64 t101, .int .i64 t102, (.slice Ao8 t103.length co8)] 33 (0, 0))) ∧ Aside0 (Below w.heap.size w wc))
 case first =>
  have H := HC4.out
  clear HC4
  by_cases c9 : t106 = true
  ·subst c9
   have H1 : ((spec_tiWord.f k a1).bind fun t108 => (if t108 = true then (spec_PeriodOfWord.j0 k a1 (a1.toList == ([] : List UInt8)) t101 t102 t103) else (spec_PeriodOfWord.j0 k a1 true t101 t102 t103))) = some (r1, r2, r3) := by rw [if_pos rfl] at H; exact H
   clear H
   have H := H1
   clear H1
   replace H := Option.bind_eq_some_iff.mp H
   obtain ⟨t108, A100, H⟩ := H
   replace H : (if t108 = true then (spec_PeriodOfWord.j0 k a1 (a1.toList == ([] : List UInt8)) t101 t102 t103) else (spec_PeriodOfWord.j0 k a1 true t101 t102 t103)) = some (r1, r2, r3) := H
   have A10 := Aside0.mk A100
   clear A100
   by_cases c11 : t108 = true
   ·subst c11
    have H1 : (spec_PeriodOfWord.j0 k a1 (a1.toList == ([] : List UInt8)) t101 t102 t103) = some (r1, r2, r3) := by rw [if_pos rfl] at H; exact H
    clear H
    have H := H1
    clear H1
    have H' := Aside0.mk H
    clear H
    go_wp2_with (first | (go_at_call 13; (with_reducible refine (spec_tiWord.calls k a1 true _ A10.out).mono ?_); rintro e w' ⟨rfl, ⟨nd, rfl⟩⟩))
    go_meet
    case rel => exact ⟨_, ((a1.toList == ([] : List UInt8))), (by first | rfl | (simp; done) | (simp [*]; done)), H', ⟨by first | omega | exact Nat.le_refl _⟩, ⟨by (with_reducible repeat (first | apply Kd.R_alloc | apply Kd.R_drewN | apply Kd.R_drew)); exact Kd.R_mono (Kd.R_far (p := ⟨gb107, 2, none⟩) (Kd.R_far (p := ⟨gb107, 1, none⟩) (Kd.R_far (p := ⟨gb107, 0, none⟩) (Kd.R_types HO105.out BK107.out (by decide)) (fun _ hk => hk.2) (.int .i64 t101)) (fun _ hk => hk.2) (.int .i64 t102)) (fun _ hk => hk.2) (.slice Ao8 t103.length co8)) (fun _ hk => trivial)⟩, ⟨by (with_reducible repeat (first | refine blk_drewN ?_ _ | refine blk_drew ?_ | refine blk_alloc ?_ _)); refine blk_put (cs := #[.int .i64 t101, .int .i64 t102, .slice none 0 0]) ?_ 2 _ rfl; (with_reducible repeat (first | refine blk_drewN ?_ _ | refine blk_drew ?_ | refine blk_alloc ?_ _)); refine blk_put (cs := #[.int .i64 t101, .int .i64 0, .slice none 0 0]) ?_ 1 _ rfl; (with_reducible repeat (first | refine blk_drewN ?_ _ | refine blk_drew ?_ | refine blk_alloc ?_ _)); refine blk_put (cs := #[.int .i64 0, .int .i64 0, .slice none 0 0]) ?_ 0 _ rfl; exact blc⟩, ⟨bel HB⟩⟩
   ·replace c11 := Bool.eq_false_iff.mpr c11
    subst c11
    have H1 : (spec_PeriodOfWord.j0 k a1 true t101 t102 t103) = some (r1, r2, r3) := by rw [if_neg (show ¬ (false = true) by decide)] at H; exact H
    clear H
    have H := H1
    clear H1
    have H' := Aside0.mk H
    clear H
    go_wp2_with (first | (go_at_call 13; (with_reducible refine (spec_tiWord.calls k a1 false _ A10.out).mono ?_); rintro e w' ⟨rfl, ⟨nd, rfl⟩⟩))
    go_meet
    case rel => exact ⟨_, (true), (by first | rfl | (simp; done) | (simp [*]; done)), H', ⟨by first | omega | exact Nat.le_refl _⟩, ⟨by (with_reducible repeat (first | apply Kd.R_alloc | apply Kd.R_drewN | apply Kd.R_drew)); exact Kd.R_mono (Kd.R_far (p := ⟨gb107, 2, none⟩) (Kd.R_far (p := ⟨gb107, 1, none⟩) (Kd.R_far (p := ⟨gb107, 0, none⟩) (Kd.R_types HO105.out BK107.out (by decide)) (fun _ hk => hk.2) (.int .i64 t101)) (fun _ hk => hk.2) (.int .i64 t102)) (fun _ hk => hk.2) (.slice Ao8 t103.length co8)) (fun _ hk => trivial)⟩, ⟨by (with_reducible repeat (first | refine blk_drewN ?_ _ | refine blk_drew ?_ | refine blk_alloc ?_ _)); refine blk_put (cs := #[.int .i64 t101, .int .i64 t102, .slice none 0 0]) ?_ 2 _ rfl; (with_reducible repeat (first | refine blk_drewN ?_ _ | refine blk_drew ?_ | refine blk_alloc ?_ _)); refine blk_put (cs := #[.int .i64 t101, .int .i64 0, .slice none 0 0]) ?_ 1 _ rfl; (with_reducible repeat (first | refine blk_drewN ?_ _ | refine blk_drew ?_ | refine blk_alloc ?_ _)); refine blk_put (cs := #[.int .i64 0, .int .i64 0, .slice none 0 0]) ?_ 0 _ rfl; exact blc⟩, ⟨bel HB⟩⟩
  ·replace c9 := Bool.eq_false_iff.mpr c9
   subst c9
   have H1 : (spec_PeriodOfWord.j0 k a1 true t101 t102 t103) = some (r1, r2, r3) := by rw [if_neg (show ¬ (false = true) by decide)] at H; exact H
   clear H
   have H := H1
   clear H1
   have H' := Aside0.mk H
   clear H
   go_wp2
   go_meet
   case rel => exact ⟨_, (true), (by first | rfl | (simp; done) | (simp [*]; done)), H', ⟨by first | omega | exact Nat.le_refl _⟩, ⟨by (with_reducible repeat (first | apply Kd.R_alloc | apply Kd.R_drewN | apply Kd.R_drew)); exact Kd.R_mono (Kd.R_far (p := ⟨gb107, 2, none⟩) (Kd.R_far (p := ⟨gb107, 1, none⟩) (Kd.R_far (p := ⟨gb107, 0, none⟩) (Kd.R_types HO105.out BK107.out (by decide)) (fun _ hk => hk.2) (.int .i64 t101)) (fun _ hk => hk.2) (.int .i64 t102)) (fun _ hk => hk.2) (.slice Ao8 t103.length co8)) (fun _ hk => trivial)⟩, ⟨by (with_reducible repeat (first | refine blk_drewN ?_ _ | refine blk_drew ?_ | refine blk_alloc ?_ _)); refine blk_put (cs := #[.int .i64 t101, .int .i64 t102, .slice none 0 0]) ?_ 2 _ rfl; (with_reducible repeat (first | refine blk_drewN ?_ _ | refine blk_drew ?_ | refine blk_alloc ?_ _)); refine blk_put (cs := #[.int .i64 t101, .int .i64 0, .slice none 0 0]) ?_ 1 _ rfl; (with_reducible repeat (first | refine blk_drewN ?_ _ | refine blk_drew ?_ | refine blk_alloc ?_ _)); refine blk_put (cs := #[.int .i64 0, .int .i64 0, .slice none 0 0]) ?_ 0 _ rfl; exact blc⟩, ⟨bel HB⟩⟩
 case rest =>
  clear HC4
  try clear c1
  try clear p2
  try clear c5
  try clear c9
  try clear c11
  try clear hcz7_0
  try clear hcz7_1
  try clear hcz7_2
  try clear hfz7_0
  try clear hfz7_1
  try clear hfz7_2
  obtain ⟨kq, x29_3, rfl, HA, HJ3, HO_108002, BK107, HB⟩ := hcut
  cases kq with
  | zero => exact absurd HA.out (by simp [spec_PeriodOfWord.j0])
  | succ kj3 =>
   have H := HA.out
   clear HA
   simp only [spec_PeriodOfWord.j0] at H
   by_cases c12 : x29_3 = true
   ·subst c12
    have H1 : (some (0, 0, false)) = some (r1, r2, r3) := by rw [if_pos rfl] at H; exact H
    clear H
    have H := H1
    clear H1
    simp only [Option.some.injEq, Prod.mk.injEq] at H
    obtain ⟨rfl, rfl, rfl⟩ := H
    go_wp2
    go_ret3
    exact ⟨by first | rfl | (simp [errW_none, errW_some] <;> rfl) | (simp [*, errW_none, errW_some] <;> rfl), bel HB⟩
   ·replace c12 := Bool.eq_false_iff.mpr c12
    subst c12
    have H1 : (spec_PeriodOfWord.l0 kj3 a1 ([] : List ByteArray) 0 t101 t102 t103) = some (r1, r2, r3) := by rw [if_neg (show ¬ (false = true) by decide)] at H; exact H
    clear H
    have H := H1
    clear H1
    have H' := Aside0.mk H
    clear H
    go_wp2
    go_loopg [9, 10] kj3 (fun kq v9 v10 w' => ∃ (x9_2 : List ByteArray) (x10_2 : Int) (x108000_2 : Int) (x108001_2 : Int) (x108002_2 : List Int) (u108002 : Value), v10 = .int .i64 x10_2 ∧ Aside0 (spec_PeriodOfWord.l0 kq a1 x9_2 x10_2 x108000_2 x108001_2 x108002_2 = some (r1, r2, r3)) ∧ Aside0 (kq ≤ kj3) ∧ Aside0 (Kd.R Kd.string 9 w' w.heap.size (fun _ => True) v9 x9_2) ∧ Aside0 (Kd.V (Kd.int .u8) 5 w' w.heap.size (fun k_ => some k_ ≠ (v9 : Value).ownBlock ∧ k_ ≠ gb107) u108002 x108002_2) ∧ Aside0 (w'.heap[gb107]? = some (.cells #[.int .i64 x108000_2, .int .i64 x108001_2, u108002] 33 (0, 0))) ∧ Aside0 (Below w.heap.size w w'))
    case atStart => exact ⟨(([] : List ByteArray)), (0), (t101), (t102), (t103), (.slice Ao8 t103.length co8), (by first | rfl | (simp; done) | (simp [*]; done)), H', ⟨Nat.le_refl _⟩, ⟨by first | exact Kd.R_nil _ _ _ _ _ | exact Kd.N_nil _ _ _ _ _ | exact Kd.V_nil _ _ _ _ _ | exact Kd.Q_nil _ _ _ _ _ | exact Kd.S_nil _ _ _ _ _⟩, ⟨Kd.R_V (by (with_reducible repeat (first | apply Kd.R_alloc | apply Kd.R_drewN | apply Kd.R_drew)); exact Kd.R_mono (Kd.R_types HO_108002.out BK107.out (by decide)) (fun _ hk => ⟨(by simp [Value.ownBlock]), hk.2⟩))⟩, ⟨blc⟩, ⟨bel HB⟩⟩
    case round =>
     clear H'
     try clear c1
     try clear p2
     try clear c5
     try clear c9
     try clear c11
     try clear c12
     try clear hcz7_0
     try clear hcz7_1
     try clear hcz7_2
     try clear hfz7_0
     try clear hfz7_1
     try clear hfz7_2
     try clear p2
     obtain ⟨x9_2, x10_2, x108000_2, x108001_2, x108002_2, u108002, rfl, HA, HK2, HO_9, HO_108002, BK107, HB⟩ := hrel
     cases gk with
     | zero => exact absurd HA.out (by simp [spec_PeriodOfWord.l0])
     | succ k2 =>
      have H := HA.out
      clear HA
      simp only [spec_PeriodOfWord.l0] at H
      by_cases c13 : x10_2 ≤ 200
      ·rw [if_pos c13] at H
       have c13b0 : decide (x10_2 ≤ 200) = true := decide_eq_true c13
       clear c13
       replace H := Option.bind_eq_some_iff.mp H
       obtain ⟨t109, A140, H⟩ := H
       replace H : (spec_PeriodOfWord.l1 k2 a1 x9_2 x10_2 t109 x9_2 (x9_2.length : Int) 0 x108000_2 x108001_2 x108002_2) = some (r1, r2, r3) := H
       have A14 := Aside0.mk A140
       clear A140
       have H' := Aside0.mk H
       clear H
       have hcz15_0 : wr.cell? ⟨gb107, 0, none⟩ = some (.int .i64 x108000_2) := (blk_cell BK107.out 0).trans rfl
       have hcz15_1 : wr.cell? ⟨gb107, 1, none⟩ = some (.int .i64 x108001_2) := (blk_cell BK107.out 1).trans rfl
       have hcz15_2 : wr.cell? ⟨gb107, 2, none⟩ = some (u108002) := (blk_cell BK107.out 2).trans rfl
       have hfz15_0 := blk_frozen BK107.out 0
       have hfz15_1 := blk_frozen BK107.out 1
       have hfz15_2 := blk_frozen BK107.out 2
       obtain ⟨Ao16, co16, eo16⟩ := Kd.V_slice HO_108002.out
       subst eo16
       go_wp2_with (first | ((with_reducible refine gate_callee (f := 14) rfl ?_); refine gcall (some 35) Tryz.func14 #[.agg #[.int .i64 x108000_2, .int .i64 x108001_2, .slice Ao16 x108002_2.length co16]] rfl ?_; (with_reducible refine (spec_tyText.calls k2 x108000_2 x108001_2 _ _ x108002_2 t109 _ ?side1 ?side2 A14.out).mono ?_); (case side1 => repeat (first | exact (Kd.V_reads' HO_108002.out).2.2 | (with_reducible refine Kd.C_alloc ?_ _) | (with_reducible refine Kd.C_drewN ?_ _) | (with_reducible refine Kd.C_drew ?_))); (case side2 => exact (Kd.V_reads' HO_108002.out).2.1); rintro e w17 ⟨rfl, hb⟩; refine ⟨_, rfl, ?_⟩; have n0_ := Aside0.mk (Kd.R_below (rch HO_9) hb); have n1_ := Aside0.mk (Kd.V_below (by (with_reducible repeat (first | apply Kd.V_alloc | apply Kd.V_drewN | apply Kd.V_drew)); (first | exact HO_108002.out | exact R_any HO_108002.out)) hb); have n2_ := Aside0.mk (blk_below (g := gb107) (o := .cells #[.int .i64 x108000_2, .int .i64 x108001_2, .slice Ao16 x108002_2.length co16] 33 (0, 0)) blc hb); have n3_ := Aside0.mk (below_step (bel HB) hb); clear HO_9; clear HO_108002; clear BK107; clear HB; have HO_9 := n0_; have HO_108002 := n1_; have BK107 := n2_; have HB := n3_; clear n0_ n1_ n2_ n3_; (try clear hb); (try clear hb2); (try clear hk); (try clear hi); obtain ⟨Ao18, co18, eo18⟩ := Kd.R_slice HO_9.out; subst eo18))
       go_loopg [38] k2 (fun kq v38 w' => ∃ (x38_3 : Int), v38 = .int .i64 x38_3 ∧ Aside0 (spec_PeriodOfWord.l1 kq a1 x9_2 x10_2 t109 x9_2 (x9_2.length : Int) x38_3 x108000_2 x108001_2 x108002_2 = some (r1, r2, r3)) ∧ Aside0 (kq ≤ k2) ∧ Aside0 (Kd.R Kd.string 9 w' w.heap.size (fun _ => True) (.slice Ao18 x9_2.length co18) x9_2) ∧ Aside0 (Kd.R Kd.string 9 w' w.heap.size (fun _ => True) (.slice Ao18 x9_2.length co18) x9_2) ∧ Aside0 (Kd.V (Kd.int .u8) 5 w' w.heap.size (fun k_ => some k_ ≠ ((.slice Ao18 x9_2.length co18) : Value).ownBlock ∧ some k_ ≠ ((.slice Ao18 x9_2.length co18) : Value).ownBlock ∧ k_ ≠ gb107) (.slice Ao16 x108002_2.length co16) x108002_2) ∧ Aside0 (w'.heap[gb107]? = some (.cells #[.int .i64 x108000_2, .int .i64 x108001_2, (.slice Ao16 x108002_2.length co16)] 33 (0, 0))) ∧ Aside0 (Below w.heap.size w w'))
       case atStart => exact ⟨(0), (by first | rfl | (simp; done) | (simp [*]; done)), H', ⟨Nat.le_refl _⟩, ⟨rch HO_9⟩, ⟨rch HO_9⟩, ⟨by (with_reducible repeat (first | apply Kd.V_alloc | apply Kd.V_drewN | apply Kd.V_drew)); exact Kd.V_mono HO_108002.out (fun _ hk => ⟨hk.1, ⟨hk.1, hk.2⟩⟩)⟩, ⟨blc⟩, ⟨bel HB⟩⟩
       case round =>
        clear H'
        try clear c1
        try clear p2
        try clear c5
        try clear c9
        try clear c11
        try clear c12
        try clear c13
        try clear c13b0
        try clear c13b0y
        try clear c14
        try clear hcz15_0
        try clear hcz15_1
        try clear hcz15_2
        try clear hcz7_0
        try clear hcz7_1
        try clear hcz7_2
        try clear hfz15_0
        try clear hfz15_1
        try clear hfz15_2
        try clear hfz7_0
        try clear hfz7_1
        try clear hfz7_2
        try clear p2
        obtain ⟨x38_3, rfl, HA, HK3, HO_9, HO_36, HO_108002, BK107, HB⟩ := hrel
        cases gk with
        | zero => exact absurd HA.out (by simp [spec_PeriodOfWord.l1])
        | succ k3 =>
         have H := HA.out
         clear HA
         simp only [spec_PeriodOfWord.l1] at H
         by_cases c19 : x38_3 < (x9_2.length : Int)
         ·rw [if_pos c19] at H
          have c19b0 : decide (x38_3 < (x9_2.length : Int)) = true := decide_eq_true c19
          clear c19
          by_cases c20 : 0 ≤ x38_3
          ·rw [if_pos c20] at H
           have c20b0 : decide (0 ≤ x38_3) = true := decide_eq_true c20
           clear c20
           by_cases c21 : x38_3 < (x9_2.length : Int)
           ·rw [if_pos c21] at H
            have c21b0 : decide (x38_3 < (x9_2.length : Int)) = true := decide_eq_true c21
            clear c21
            by_cases c22 : (rdOf ByteArray.empty x9_2 x38_3).toList = t109.toList
            ·rw [if_pos c22] at H
             have c22b0 : ((rdOf ByteArray.empty x9_2 x38_3).toList == t109.toList) = true := beq_iff_eq.mpr c22
             have c22b1 : ((rdOf ByteArray.empty x9_2 x38_3).toList != t109.toList) = false := bne_eq_false_iff_eq.mpr c22
             clear c22
             simp only [Option.some.injEq, Prod.mk.injEq] at H
             obtain ⟨rfl, rfl, rfl⟩ := H
             have p110 : 0 ≤ (x38_3 : Int) := of_decide_eq_true (by first | (with_reducible assumption) | assumption)
             have q110 : x38_3 < (x9_2.length : Int) := of_decide_eq_true (by first | (with_reducible assumption) | assumption)
             obtain ⟨ad110, e110, hx110_0⟩ := Kd.at_string (Kd.R_reads' HO_36.out).2.2 x38_3 p110 q110
             cases e110
             replace p110 := eq_true p110
             replace q110 := eq_true q110
             go_wp2
             go_ret3
             exact ⟨by first | rfl | (simp [errW_none, errW_some] <;> rfl) | (simp [*, errW_none, errW_some] <;> rfl), bel HB⟩
            ·rw [if_neg c22] at H
             have c22b0 : ((rdOf ByteArray.empty x9_2 x38_3).toList == t109.toList) = false := beq_eq_false_iff_ne.mpr c22
             have c22b1 : ((rdOf ByteArray.empty x9_2 x38_3).toList != t109.toList) = true := bne_iff_ne.mpr c22
             have H' := Aside0.mk H
             clear H
             have p110 : 0 ≤ (x38_3 : Int) := of_decide_eq_true (by first | (with_reducible assumption) | assumption)
             have q110 : x38_3 < (x9_2.length : Int) := of_decide_eq_true (by first | (with_reducible assumption) | assumption)
             obtain ⟨ad110, e110, hx110_0⟩ := Kd.at_string (Kd.R_reads' HO_36.out).2.2 x38_3 p110 q110
             cases e110
             replace p110 := eq_true p110
             replace q110 := eq_true q110
             go_wp2
             go_roundg k3
             case measure => have := HJ3.out; have := HK2.out; have := HK3.out; omega
             case rel => exact ⟨(wrap64 (x38_3 + 1)), (by first | rfl | (simp; done) | (simp [*]; done)), H', ⟨by have := HJ3.out; have := HK2.out; have := HK3.out; omega⟩, ⟨rch HO_9⟩, ⟨rch HO_36⟩, ⟨by (with_reducible repeat (first | apply Kd.V_alloc | apply Kd.V_drewN | apply Kd.V_drew)); (first | exact HO_108002.out | exact R_any HO_108002.out)⟩, ⟨blc⟩, ⟨bel HB⟩⟩
           ·rw [if_neg c21] at H
            exact absurd H (by simp)
          ·rw [if_neg c20] at H
           exact absurd H (by simp)
         ·rw [if_neg c19] at H
          have c19b0 : decide (x38_3 < (x9_2.length : Int)) = false := decide_eq_false c19
          clear c19
          by_cases c23 : x9_2.length < 8796093022208
          ·rw [if_pos c23] at H
           have LMc23 := Aside0.mk c23
           clear c23
           obtain ⟨y111, hy111⟩ : ∃ y_ : List ByteArray, y_ = (x9_2 ++ [t109]) := ⟨_, rfl⟩
           replace H : ((spec_tiRun.f k3 x108000_2 x108001_2 x108002_2 a1).bind fun bt114 => (spec_PeriodOfWord.l0 k3 a1 y111 (wrap64 (x10_2 + 1)) bt114.1 bt114.2.1 bt114.2.2)) = some (r1, r2, r3) := rH hy111 H
           have Ny111 := Aside0.mk hy111
           clear hy111
           replace H := Option.bind_eq_some_iff.mp H
           obtain ⟨⟨t114, t115, t116⟩, A240, H⟩ := H
           replace H : (spec_PeriodOfWord.l0 k3 a1 y111 (wrap64 (x10_2 + 1)) t114 t115 t116) = some (r1, r2, r3) := H
           have A24 := Aside0.mk A240
           clear A240
           have H' := Aside0.mk H
           clear H
           go_wp2_with (first | ((with_reducible refine gate_builtin (b := .append) (xs := #[.tmp 51, .tmp 53]) rfl ?_); at_builtin; refine Kd.R_append Kd.string (w0 := w) w.heap.size rfl (.tmp 51) (.tmp 53) 36 9 (.string ⟨#[]⟩) 16 rfl Tryz.underlying36 info9 rfl (by decide) (by omega) (.slice Ao18 x9_2.length co18) x9_2 t109 [.string t109] (fun _ => True) (fun _ => False) rfl rfl ?aP (fun _ hk => hk.elim) ?aF ?aO ?aB ?aS ?aL ?_; (case aP => exact rfl); (case aB => exact (bel HB)); (case aF => exact (fun _ _ => trivial)); (case aO => exact (rch HO_9)); (case aS => exact (below_size (bel HB))); (case aL => have := LMc23.out; omega); intro v112 w25 ho hb hg hat; rw [← Ny111.out] at ho; have n0_ := Aside0.mk (lt_grow (Kd.R_lt (rch HO_36)) hg); have n1_ := Aside0.mk (Kd.V_afterv (ok := (fun k_ => some k_ ≠ (.slice Ao18 x9_2.length co18 : Value).ownBlock ∧ k_ ≠ gb107)) (by (with_reducible repeat (first | apply Kd.V_alloc | apply Kd.V_drewN | apply Kd.V_drew)); exact Kd.V_mono HO_108002.out (fun _ hk => ⟨⟨hk.2.1, hk.2.2⟩, hk.1⟩)) hg hat); have n2_ := Aside0.mk (blk_grown (g := gb107) (o := .cells #[.int .i64 x108000_2, .int .i64 x108001_2, .slice Ao16 x108002_2.length co16] 33 (0, 0)) blc hg (Kd.R_ne HO_9.out BK107.out (by decide))); have n3_ := Aside0.mk (hb); have n4_ := Aside0.mk (ho); clear HO_36; clear HO_108002; clear BK107; clear HB; clear HO_9; have HO_36 := n0_; have HO_108002 := n1_; have BK107 := n2_; have HB := n3_; have HO113 := n4_; clear n0_ n1_ n2_ n3_ n4_; clear ho hb hg hat; have hcz26_0 : w25.cell? ⟨gb107, 0, none⟩ = some (.int .i64 x108000_2) := (blk_cell BK107.out 0).trans rfl; have hcz26_1 : w25.cell? ⟨gb107, 1, none⟩ = some (.int .i64 x108001_2) := (blk_cell BK107.out 1).trans rfl; have hcz26_2 : w25.cell? ⟨gb107, 2, none⟩ = some (.slice Ao16 x108002_2.length co16) := (blk_cell BK107.out 2).trans rfl; have hfz26_0 := blk_frozen BK107.out 0; have hfz26_1 := blk_frozen BK107.out 1; have hfz26_2 := blk_frozen BK107.out 2) | ((with_reducible refine gate_callee (f := 15) rfl ?_); refine gcall (some 57) Tryz.func15 #[.agg #[.int .i64 x108000_2, .int .i64 x108001_2, .slice Ao16 x108002_2.length co16], .string a1] rfl ?_; (with_reducible refine (spec_tiRun.calls k3 x108000_2 x108001_2 (fun k_ => ((some k_ ≠ (.slice Ao18 x9_2.length co18 : Value).ownBlock ∧ k_ ≠ gb107) ∧ some k_ ≠ (v112 : Value).ownBlock)) _ _ x108002_2 a1 t114 t115 t116 _ ?side1 A24.out).mono ?_); (case side1 => (first | exact HO_108002.out | exact R_any HO_108002.out)); rintro e w27 ⟨v117, rfl, ho0, hb⟩; refine ⟨_, rfl, ?_⟩; have n0_ := trivial; have n1_ := Aside0.mk (Kd.V_below (by (with_reducible repeat (first | apply Kd.V_alloc | apply Kd.V_drewN | apply Kd.V_drew)); (first | exact HO_108002.out | exact R_any HO_108002.out)) hb); have n2_ := Aside0.mk (Kd.R_below (rch HO113) hb); have n3_ := Aside0.mk (Kd.V_lower (Kd.V_mono (ok' := fun k_ => some k_ ≠ (.slice Ao18 x9_2.length co18 : Value).ownBlock ∧ some k_ ≠ (v112 : Value).ownBlock ∧ k_ ≠ gb107) ho0 (fun k_ hk_ => ⟨Or.elim hk_ (fun hs_ => hs_.1.1) (fun hn_ => (Kd.fresh' HO_36.out k_ hn_)), Or.elim hk_ (fun hs_ => hs_.2) (fun hn_ => (Kd.fresh' (Kd.R_lt (rch HO113)) k_ hn_)), Or.elim hk_ (fun hs_ => hs_.1.2) (fun hn_ => (Kd.freshB (g := gb107) (o := .cells #[.int .i64 x108000_2, .int .i64 x108001_2, .slice Ao16 x108002_2.length co16] 33 (0, 0)) blc k_ hn_))⟩)) (below_size (bel HB))); have n4_ := Aside0.mk (blk_below (g := gb107) (o := .cells #[.int .i64 x108000_2, .int .i64 x108001_2, .slice Ao16 x108002_2.length co16] 33 (0, 0)) blc hb); have n5_ := Aside0.mk (below_step (bel HB) hb); clear HO_36; clear HO_108002; clear HO113; clear BK107; clear HB; have HO_36 := n0_; have HO_108002 := n1_; have HO113 := n2_; have HO118 := n3_; have BK107 := n4_; have HB := n5_; clear n0_ n1_ n2_ n3_ n4_ n5_; (try clear hb); (try clear hb2); (try clear hk); (try clear hi); (try clear ho0); have hcz28_0 : w27.cell? ⟨gb107, 0, none⟩ = some (.int .i64 x108000_2) := (blk_cell BK107.out 0).trans rfl; have hcz28_1 : w27.cell? ⟨gb107, 1, none⟩ = some (.int .i64 x108001_2) := (blk_cell BK107.out 1).trans rfl; have hcz28_2 : w27.cell? ⟨gb107, 2, none⟩ = some (.slice Ao16 x108002_2.length co16) := (blk_cell BK107.out 2).trans rfl; have hfz28_0 := blk_frozen BK107.out 0; have hfz28_1 := blk_frozen BK107.out 1; have hfz28_2 := blk_frozen BK107.out 2; obtain ⟨Ao29, co29, eo29⟩ := Kd.V_slice HO118.out; subst eo29))
           go_roundg k3
           case measure => have := HJ3.out; have := HK2.out; have := HK3.out; omega
           case rel => exact ⟨(y111), (wrap64 (x10_2 + 1)), (t114), (t115), (t116), (.slice Ao29 t116.length co29), (by first | rfl | (simp; done) | (simp [*]; done)), H', ⟨by have := HJ3.out; have := HK2.out; have := HK3.out; omega⟩, ⟨by (with_reducible repeat (first | apply Kd.R_alloc | apply Kd.R_drewN | apply Kd.R_drew)); exact Kd.R_mono (Kd.R_far (p := ⟨gb107, 2, none⟩) (Kd.R_far (p := ⟨gb107, 1, none⟩) (Kd.R_far (p := ⟨gb107, 0, none⟩) (Kd.R_types HO113.out BK107.out (by decide)) (fun _ hk => hk.2) (.int .i64 t114)) (fun _ hk => hk.2) (.int .i64 t115)) (fun _ hk => hk.2) (.slice Ao29 t116.length co29)) (fun _ hk => trivial)⟩, ⟨by (with_reducible repeat (first | apply Kd.V_alloc | apply Kd.V_drewN | apply Kd.V_drew)); exact Kd.V_mono (Kd.V_far (p := ⟨gb107, 2, none⟩) (Kd.V_far (p := ⟨gb107, 1, none⟩) (Kd.V_far (p := ⟨gb107, 0, none⟩) (Kd.V_mono HO118.out (fun k_ hk => (⟨hk, hk.2.2⟩ : _ ∧ k_ ≠ gb107))) (fun _ hk => hk.2) (.int .i64 t114)) (fun _ hk => hk.2) (.int .i64 t115)) (fun _ hk => hk.2) (.slice Ao29 t116.length co29)) (fun _ hk => ⟨hk.1.2.1, hk.1.2.2⟩)⟩, ⟨by (with_reducible repeat (first | refine blk_drewN ?_ _ | refine blk_drew ?_ | refine blk_alloc ?_ _)); refine blk_put (cs := #[.int .i64 t114, .int .i64 t115, .slice Ao16 x108002_2.length co16]) ?_ 2 _ rfl; (with_reducible repeat (first | refine blk_drewN ?_ _ | refine blk_drew ?_ | refine blk_alloc ?_ _)); refine blk_put (cs := #[.int .i64 t114, .int .i64 x108001_2, .slice Ao16 x108002_2.length co16]) ?_ 1 _ rfl; (with_reducible repeat (first | refine blk_drewN ?_ _ | refine blk_drew ?_ | refine blk_alloc ?_ _)); refine blk_put (cs := #[.int .i64 x108000_2, .int .i64 x108001_2, .slice Ao16 x108002_2.length co16]) ?_ 0 _ rfl; exact blc⟩, ⟨bel HB⟩⟩
          ·rw [if_neg c23] at H
           exact absurd H (by simp)
      ·rw [if_neg c13] at H
       have c13b0 : decide (x10_2 ≤ 200) = false := decide_eq_false c13
       clear c13
       simp only [Option.some.injEq, Prod.mk.injEq] at H
       obtain ⟨rfl, rfl, rfl⟩ := H
       go_wp2
       go_ret3
       exact ⟨by first | rfl | (simp [errW_none, errW_some] <;> rfl) | (simp [*, errW_none, errW_some] <;> rfl), bel HB⟩
def laws_FnExactPeriodOfWord.f (k : Nat) (a0 : ByteArray) (a1 : ByteArray) : Option (Bool) := if (a0.size : Int) > 1048576 then (some true) else (if (a1.size : Int) > 1048576 then (some true) else ((spec_PeriodOfWord.f k a0 a1).bind fun bt101 => ((impl_PeriodOfWord.f k a0 a1).bind fun bt104 => (if bt104.1 = bt101.1 then (if bt104.2.1 = bt101.2.1 then (if (bt104.2.2 != bt101.2.2) = true then (some false) else (some true)) else (some false)) else (some false)))))
set_option maxHeartbeats 8000000 in
set_option maxRecDepth 100000 in
theorem laws_FnExactPeriodOfWord.calls (k : Nat) (a0 : ByteArray) (a1 : ByteArray) (r : Bool) (w : World) (hG : GoodW w) (h : laws_FnExactPeriodOfWord.f k a0 a1 = some r) :
  Calls Tryz.prog 3 #[.string a0, .string a1] w fun e w' => e = .returned (.bool r) ∧ Below w.heap.size w w' := by
 have HG := Aside0.mk hG
 clear hG
 have HB := Aside0.mk (Below.refl w.heap.size w)
 have H : (if (a0.size : Int) > 1048576 then (some true) else (if (a1.size : Int) > 1048576 then (some true) else ((spec_PeriodOfWord.f k a0 a1).bind fun bt101 => ((impl_PeriodOfWord.f k a0 a1).bind fun bt104 => (if bt104.1 = bt101.1 then (if bt104.2.1 = bt101.2.1 then (if (bt104.2.2 != bt101.2.2) = true then (some false) else (some true)) else (some false)) else (some false)))))) = some r := h
 clear h
 by_cases c3 : (a0.size : Int) > 1048576
 ·rw [if_pos c3] at H
  have c3b0 : decide (1048576 < (a0.size : Int)) = true := decide_eq_true c3
  have c3b1 : decide (1048576 < a0.size) = true := decide_eq_true (by omega)
  clear c3
  obtain rfl := Option.some.inj H
  go_enter Tryz.func3, Tryz.ntmps3
  go_wp2
  go_ret
  exact ⟨by first | rfl | (simp [errW_none, errW_some] <;> rfl) | (simp [*, errW_none, errW_some] <;> rfl), bel HB⟩
 ·rw [if_neg c3] at H
  have c3b0 : decide (1048576 < (a0.size : Int)) = false := decide_eq_false c3
  have c3b1 : decide (1048576 < a0.size) = false := decide_eq_false (by omega)
  clear c3
  by_cases c4 : (a1.size : Int) > 1048576
  ·rw [if_pos c4] at H
   have c4b0 : decide (1048576 < (a1.size : Int)) = true := decide_eq_true c4
   have c4b1 : decide (1048576 < a1.size) = true := decide_eq_true (by omega)
   clear c4
   obtain rfl := Option.some.inj H
   go_enter Tryz.func3, Tryz.ntmps3
   go_wp2
   go_ret
   exact ⟨by first | rfl | (simp [errW_none, errW_some] <;> rfl) | (simp [*, errW_none, errW_some] <;> rfl), bel HB⟩
  ·rw [if_neg c4] at H
   have c4b0 : decide (1048576 < (a1.size : Int)) = false := decide_eq_false c4
   have c4b1 : decide (1048576 < a1.size) = false := decide_eq_false (by omega)
   clear c4
   replace H := Option.bind_eq_some_iff.mp H
   obtain ⟨⟨t101, t102, t103⟩, A50, H⟩ := H
   replace H : ((impl_PeriodOfWord.f k a0 a1).bind fun bt104 => (if bt104.1 = t101 then (if bt104.2.1 = t102 then (if (bt104.2.2 != t103) = true then (some false) else (some true)) else (some false)) else (some false))) = some r := H
   have A5 := Aside0.mk A50
   clear A50
   replace H := Option.bind_eq_some_iff.mp H
   obtain ⟨⟨t104, t105, t106⟩, A60, H⟩ := H
   replace H : (if t104 = t101 then (if t105 = t102 then (if (t106 != t103) = true then (some false) else (some true)) else (some false)) else (some false)) = some r := H
   have A6 := Aside0.mk A60
   clear A60
   by_cases c7 : t104 = t101
   ·rw [if_pos c7] at H
    have c7b0 : (t104 == t101) = true := beq_iff_eq.mpr c7
    have c7b1 : (t104 != t101) = false := bne_eq_false_iff_eq.mpr c7
    clear c7
    by_cases c8 : t105 = t102
    ·rw [if_pos c8] at H
     have c8b0 : (t105 == t102) = true := beq_iff_eq.mpr c8
     have c8b1 : (t105 != t102) = false := bne_eq_false_iff_eq.mpr c8
     clear c8
     by_cases c9 : (t106 != t103) = true
     ·rw [if_pos c9] at H
      have c9b0 : (t106 != t103) = true := c9
      (try (have c9b1 : decide (t106 = t103) = false := by simpa using c9))
      (try (have c9b2 : (t106 == t103) = false := by simpa using c9))
      (try (have c9b3 : ¬ (t106 = t103) := by simpa using c9))
      clear c9
      obtain rfl := Option.some.inj H
      go_enter Tryz.func3, Tryz.ntmps3
      go_wp2_with (first | ((with_reducible refine gate_callee (f := 5) rfl ?_); refine gcall (some 20) Tryz.func5 #[.string a0, .string a1] rfl ?_; (with_reducible refine (spec_PeriodOfWord.calls k a0 a1 t101 t102 t103 _ A5.out).mono ?_); rintro e w10 ⟨rfl, hb⟩; refine ⟨_, rfl, ?_⟩; have n0_ := Aside0.mk (below_step (bel HB) hb); clear HB; have HB := n0_; clear n0_; (try clear hb); (try clear hb2); (try clear hk); (try clear hi)) | ((with_reducible refine gate_callee (f := 6) rfl ?_); refine gcall (some 27) Tryz.func6 #[.string a0, .string a1] rfl ?_; (with_reducible refine (impl_PeriodOfWord.calls k a0 a1 t104 t105 t106 _ ?side1 A6.out).mono ?_); (case side1 => (refine GoodW.below HG.out ?_); exact bel HB); rintro e w11 ⟨rfl, hb⟩; refine ⟨_, rfl, ?_⟩; have n0_ := Aside0.mk (below_step (bel HB) hb); clear HB; have HB := n0_; clear n0_; (try clear hb); (try clear hb2); (try clear hk); (try clear hi)))
      go_ret
      exact ⟨by first | rfl | (simp [errW_none, errW_some] <;> rfl) | (simp [*, errW_none, errW_some] <;> rfl), bel HB⟩
     ·rw [if_neg c9] at H
      have c9b0 : (t106 != t103) = false := by simpa using c9
      (try (have c9b1 : decide (t106 = t103) = true := by simpa using c9))
      (try (have c9b2 : (t106 == t103) = true := by simpa using c9))
      clear c9
      obtain rfl := Option.some.inj H
      go_enter Tryz.func3, Tryz.ntmps3
      go_wp2_with (first | ((with_reducible refine gate_callee (f := 5) rfl ?_); refine gcall (some 20) Tryz.func5 #[.string a0, .string a1] rfl ?_; (with_reducible refine (spec_PeriodOfWord.calls k a0 a1 t101 t102 t103 _ A5.out).mono ?_); rintro e w12 ⟨rfl, hb⟩; refine ⟨_, rfl, ?_⟩; have n0_ := Aside0.mk (below_step (bel HB) hb); clear HB; have HB := n0_; clear n0_; (try clear hb); (try clear hb2); (try clear hk); (try clear hi)) | ((with_reducible refine gate_callee (f := 6) rfl ?_); refine gcall (some 27) Tryz.func6 #[.string a0, .string a1] rfl ?_; (with_reducible refine (impl_PeriodOfWord.calls k a0 a1 t104 t105 t106 _ ?side1 A6.out).mono ?_); (case side1 => (refine GoodW.below HG.out ?_); exact bel HB); rintro e w13 ⟨rfl, hb⟩; refine ⟨_, rfl, ?_⟩; have n0_ := Aside0.mk (below_step (bel HB) hb); clear HB; have HB := n0_; clear n0_; (try clear hb); (try clear hb2); (try clear hk); (try clear hi)))
      go_ret
      exact ⟨by first | rfl | (simp [errW_none, errW_some] <;> rfl) | (simp [*, errW_none, errW_some] <;> rfl), bel HB⟩
    ·rw [if_neg c8] at H
     have c8b0 : (t105 == t102) = false := beq_eq_false_iff_ne.mpr c8
     have c8b1 : (t105 != t102) = true := bne_iff_ne.mpr c8
     obtain rfl := Option.some.inj H
     go_enter Tryz.func3, Tryz.ntmps3
     go_wp2_with (first | ((with_reducible refine gate_callee (f := 5) rfl ?_); refine gcall (some 20) Tryz.func5 #[.string a0, .string a1] rfl ?_; (with_reducible refine (spec_PeriodOfWord.calls k a0 a1 t101 t102 t103 _ A5.out).mono ?_); rintro e w14 ⟨rfl, hb⟩; refine ⟨_, rfl, ?_⟩; have n0_ := Aside0.mk (below_step (bel HB) hb); clear HB; have HB := n0_; clear n0_; (try clear hb); (try clear hb2); (try clear hk); (try clear hi)) | ((with_reducible refine gate_callee (f := 6) rfl ?_); refine gcall (some 27) Tryz.func6 #[.string a0, .string a1] rfl ?_; (with_reducible refine (impl_PeriodOfWord.calls k a0 a1 t104 t105 t106 _ ?side1 A6.out).mono ?_); (case side1 => (refine GoodW.below HG.out ?_); exact bel HB); rintro e w15 ⟨rfl, hb⟩; refine ⟨_, rfl, ?_⟩; have n0_ := Aside0.mk (below_step (bel HB) hb); clear HB; have HB := n0_; clear n0_; (try clear hb); (try clear hb2); (try clear hk); (try clear hi)))
     go_ret
     exact ⟨by first | rfl | (simp [errW_none, errW_some] <;> rfl) | (simp [*, errW_none, errW_some] <;> rfl), bel HB⟩
   ·rw [if_neg c7] at H
    have c7b0 : (t104 == t101) = false := beq_eq_false_iff_ne.mpr c7
    have c7b1 : (t104 != t101) = true := bne_iff_ne.mpr c7
    obtain rfl := Option.some.inj H
    go_enter Tryz.func3, Tryz.ntmps3
    go_wp2_with (first | ((with_reducible refine gate_callee (f := 5) rfl ?_); refine gcall (some 20) Tryz.func5 #[.string a0, .string a1] rfl ?_; (with_reducible refine (spec_PeriodOfWord.calls k a0 a1 t101 t102 t103 _ A5.out).mono ?_); rintro e w16 ⟨rfl, hb⟩; refine ⟨_, rfl, ?_⟩; have n0_ := Aside0.mk (below_step (bel HB) hb); clear HB; have HB := n0_; clear n0_; (try clear hb); (try clear hb2); (try clear hk); (try clear hi)) | ((with_reducible refine gate_callee (f := 6) rfl ?_); refine gcall (some 27) Tryz.func6 #[.string a0, .string a1] rfl ?_; (with_reducible refine (impl_PeriodOfWord.calls k a0 a1 t104 t105 t106 _ ?side1 A6.out).mono ?_); (case side1 => (refine GoodW.below HG.out ?_); exact bel HB); rintro e w17 ⟨rfl, hb⟩; refine ⟨_, rfl, ?_⟩; have n0_ := Aside0.mk (below_step (bel HB) hb); clear HB; have HB := n0_; clear n0_; (try clear hb); (try clear hb2); (try clear hk); (try clear hi)))
    go_ret
    exact ⟨by first | rfl | (simp [errW_none, errW_some] <;> rfl) | (simp [*, errW_none, errW_some] <;> rfl), bel HB⟩
end Go.Proofs.YtggdmblknkcigaaGreatDoor.Q
end
section
namespace Go.Proofs.YtggdmblknkcigaaGreatDoor.Q
set_option linter.unusedSectionVars false
open Go.RowKit Go.Proofs.YtggdmblknkcigaaGreatDoorW.PrintWords Go.Proofs.YtggdmblknkcigaaGreatDoorW.PrintLast Go.Proofs.YtggdmblknkcigaaGreatDoorW.PrintMore
open Classical
theorem rdOf_drop {L : List ByteArray} {u : Nat} {x : ByteArray} {l : List ByteArray} (h : L.drop u = x :: l) : u < L.length ∧ rdOf ByteArray.empty L (u : Int) = x ∧ L.drop (u + 1) = l := by
 have h1 : u < L.length := by
  refine Classical.byContradiction fun hn => ?_
  rw [List.drop_eq_nil_of_le (by omega)] at h
  cases h
 rw [List.drop_eq_getElem_cons h1] at h
 injection h with h2 h3
 refine ⟨h1, ?_, h3⟩
 unfold rdOf
 rw [Int.toNat_natCast, List.getD_eq_getElem?_getD, List.getElem?_eq_getElem h1, ← h2]
 rfl
def bD (x : ByteArray) : List UInt8 := x.data.toList
theorem perS_l1 (s t : ByteArray) (L : List ByteArray) (i : Nat) (w h : Int) (cs : List Int) (r : Int × Int × Bool) (hL : L.length ≤ 1000) (hi : i ≤ 1000) : ∀ (l : List ByteArray) (u : Nat), L.drop u = l → u ≤ L.length →
  (∀ j : Nat, idxS (l.map bD) (bD t) u = some j → r = ((j : Int), wrap64 ((i : Int) - j), true)) →
  (idxS (l.map bD) (bD t) u = none → Ev (fun k => (spec_tiRun.f k w h cs s).bind fun bt114 => (spec_PeriodOfWord.l0 k s (L ++ [t]) (wrap64 ((i : Int) + 1)) bt114.1 bt114.2.1 bt114.2.2)) r) →
  Ev (fun k => spec_PeriodOfWord.l1 k s L (i : Int) t L (L.length : Int) (u : Int) w h cs) r
 | [], u, hd, hu, _, hN => by
  have h1 : u = L.length := by
   have := congrArg List.length hd
   simp at this
   omega
  subst h1
  refine Ev.step (hN rfl) fun k => ?_
  rw [spec_PeriodOfWord.l1, if_neg (by omega), if_pos (Nat.lt_of_le_of_lt hL (by decide))]
 | x :: l, u, hd, hu, hS, hN => by
  obtain ⟨h1, h2, h3⟩ := rdOf_drop hd
  rw [List.map_cons, idxS] at hS hN
  by_cases e : bD x = bD t
  ·rw [if_pos e] at hS
   rw [hS u rfl]
   refine Ev.step (Ev.const (o := some ((u : Int), wrap64 ((i : Int) - u), true)) rfl) fun k => ?_
   rw [spec_PeriodOfWord.l1, if_pos (by omega), if_pos (by omega), if_pos (by omega), h2, if_pos (by rw [toList_data, toList_data]; exact e)]
  ·rw [if_neg e] at hS hN
   refine Ev.step (perS_l1 s t L i w h cs r hL hi l (u + 1) h3 h1 hS hN) fun k => ?_
   rw [spec_PeriodOfWord.l1, if_pos (by omega), if_pos (by omega), if_pos (by omega), h2, if_neg (by rw [toList_data, toList_data]; exact e), wr1 u (by omega)]
section
variable {w h : Nat} (hw : w ≤ 7) (hh : h ≤ 7) (hs : w * h ≤ 36) (hw1 : 0 < w) (hh1 : 0 < h)
include hw hh hs hw1 hh1
theorem perS_l0 {s : ByteArray} (hb : wordB s = true) : ∀ (m i : Nat) (L : List ByteArray) (cs : List Int), m + i = 201 → L.length = i → cs.length = w * h → Ev (fun k => spec_PeriodOfWord.l0 k s L (i : Int) w h cs) (perR w h (s.data.toList.map dirN) m (L.map bD) cs)
 | 0, i, L, cs, hi, hL, hn => by
  refine Ev.step (Ev.const (o := some (0, 0, false)) rfl) fun k => ?_
  rw [spec_PeriodOfWord.l0, if_neg (by omega)]
 | m + 1, i, L, cs, hi, hL, hn => by
  have htx := tyText_ev (w := w) (h := h) (cs := cs) hw1 hh1 hs hn
  have hl := tiltW_len hw hh hs hw1 hh1 (s.data.toList.map dirN) cs wordB_lt hn
  refine Ev.step (Ev.bind (f := fun k t109 => (spec_PeriodOfWord.l1 k s L (i : Int) t109 L (L.length : Int) 0 w h cs)) htx (perS_l1 s (tx cs w h) L i w h cs _ (by omega) (by omega) L 0 rfl (Nat.zero_le _) (fun j hj => ?_) (fun hj => ?_))) fun k => ?_
  ·rw [perR, show (tx cs w h).data.toList = bD (tx cs w h) from rfl, hj]
   have hlt := idxS_lt _ _ _ _ hj
   rw [List.length_map] at hlt
   rw [List.length_map, hL]
   show ((j : Int), (i : Int) - j, true) = _
   rw [w64 (n := (i : Int) - j) (by omega) (by omega)]
  ·rw [perR, show (tx cs w h).data.toList = bD (tx cs w h) from rfl, hj]
   have ih := perS_l0 hb m (i + 1) (L ++ [tx cs w h]) _ (by omega) (by rw [List.length_append, List.length_singleton, hL]) hl
   rw [List.map_append, ← wr1 i (by omega)] at ih
   exact Ev.bind (f := fun k (bt114 : Int × Int × List Int) => (spec_PeriodOfWord.l0 k s (L ++ [tx cs w h]) (wrap64 ((i : Int) + 1)) bt114.1 bt114.2.1 bt114.2.2)) (tiRun_ev hw hh hs hw1 hh1 hb hn) ih
  ·rw [spec_PeriodOfWord.l0, if_pos (by omega)]
theorem perI_ev {s : ByteArray} (hb : wordB s = true) : ∀ (m i : Nat) (L : List (List UInt8)) (cs : List Int), m + i = 201 → L.length = i → cs.length = w * h → Ev (fun k => perI k s m i (fS L) w h cs) (perR w h (s.data.toList.map dirN) m L cs)
 | 0, i, L, cs, _, _, _ => Ev.const rfl
 | m + 1, i, L, cs, hi, hL, hn => by
  have htx := text_val w h cs hw1 hh1 hs hn
  have hsz := tx_size (w := w) (h := h) (cs := cs) hw1 hw hh1 hh hs hn
  have hl := tiltW_len hw hh hs hw1 hh1 (s.data.toList.map dirN) cs wordB_lt hn
  cases hj : idxS L (tx cs w h).data.toList 0 with
  | some j =>
   have hlt := idxS_lt _ _ _ _ hj
   refine Ev.congr (Ev.const (o := some ((j : Int), (L.length : Int) - j, true)) ?_) fun k => ?_
   ·rw [perR, hj]
   ·rw [perI, htx, Option.bind_some, if_pos hsz, fS_some hj, hL]
    show some ((j : Int), wrap64 ((i : Int) - j), true) = _
    rw [w64 (n := (i : Int) - j) (by omega) (by omega)]
  | none =>
   have ih := perI_ev hb m (i + 1) (L ++ [(tx cs w h).data.toList]) _ (by omega) (by rw [List.length_append, List.length_singleton, hL]) hl
   rw [← fS_snoc hj, hL] at ih
   rw [perR, hj]
   refine Ev.congr (Ev.bind (f := fun k (g : Int × Int × List Int) => perI k s m (i + 1) (updS (fS L) (tx cs w h).data.toList i) g.1 g.2.1 g.2.2) (tiltedAll_ev hw hh hs hw1 hh1 hb hn) ih) fun k => ?_
   rw [perI, htx, Option.bind_some, if_pos hsz, fS_none hj]
end
def PeriodOfWordR (t s : ByteArray) : Int × Int × Bool := match trayOf t with
 | none => (0, 0, false)
 | some (w, h, cs) => if wordB s = true ∧ s.size ≠ 0 then perR w.toNat h.toNat (s.data.toList.map dirN) 201 [] cs else (0, 0, false)
theorem empty_eq (s : ByteArray) : (s.toList == ([] : List UInt8)) = decide (s.size = 0) := by
 rw [toList_data, ← data_length]
 cases s.data.toList <;> rfl
theorem specPeriodOfWord_ev (t s : ByteArray) : Ev (fun k => spec_PeriodOfWord.f k t s) (PeriodOfWordR t s) := by
 have hno : ∀ w h cs, Ev (fun k => spec_PeriodOfWord.j0 k s true w h cs) (0, 0, false) := fun w h cs => by
  refine Ev.step (Ev.const (o := some (0, 0, false)) rfl) fun k => ?_
  rw [spec_PeriodOfWord.j0, if_pos rfl]
 refine Ev.bind (f := fun k (bt101 : Int × Int × List Int × Bool) => (if bt101.2.2.2 = true then ((spec_tiWord.f k s).bind fun t108 => (if t108 = true then (spec_PeriodOfWord.j0 k s (s.toList == ([] : List UInt8)) bt101.1 bt101.2.1 bt101.2.2.1) else (spec_PeriodOfWord.j0 k s true bt101.1 bt101.2.1 bt101.2.2.1))) else (spec_PeriodOfWord.j0 k s true bt101.1 bt101.2.1 bt101.2.2.1))) (tyRead_ev t) ?_
 unfold PeriodOfWordR
 rcases ht : trayOf t with _ | ⟨w, h, cs⟩
 ·exact Ev.congr (hno _ _ _) fun k => if_neg Bool.false_ne_true
 ·obtain ⟨w, h, cs, e, hw1, hw, hh1, hh, hs, hn⟩ := tray_parts ht
  injection e with e1 e2
  injection e2 with e2 e3
  subst e1 e2 e3
  have hz : 0 < w * h := Nat.mul_pos hw1 hh1
  show Ev _ (if wordB s = true ∧ s.size ≠ 0 then _ else _)
  simp only [Int.toNat_natCast]
  refine Ev.congr (Ev.bind (f := fun k t108 => (if t108 = true then (spec_PeriodOfWord.j0 k s (s.toList == ([] : List UInt8)) w h cs) else (spec_PeriodOfWord.j0 k s true w h cs))) (tiWord_ev s) ?_) fun k => if_pos rfl
  by_cases hb : wordB s = true
  ·by_cases hz0 : s.size = 0
   ·rw [if_neg fun hh => hh.2 hz0]
    refine Ev.congr (hno w h cs) fun k => ?_
    rw [if_pos hb, empty_eq, decide_eq_true hz0]
   ·rw [if_pos ⟨hb, hz0⟩]
    refine Ev.congr (Ev.step (g := fun k => spec_PeriodOfWord.j0 k s false w h cs) (perS_l0 hw hh hs hw1 hh1 hb 201 0 [] cs rfl rfl hn) fun k => ?_) fun k => ?_
    ·rw [spec_PeriodOfWord.j0, if_neg (by decide)]
     rfl
    ·rw [if_pos hb, empty_eq, decide_eq_false hz0]
  ·rw [if_neg fun hh => hb hh.1]
   exact Ev.congr (hno w h cs) fun k => if_neg hb
theorem implPeriodOfWord_ev (t s : ByteArray) (ht0 : t.size ≤ 1048576) : Ev (fun k => impl_PeriodOfWord.f k t s) (PeriodOfWordR t s) := by
 refine Ev.bind (f := fun k (t : Bool) => if t = true then (impl_IsWord.f s).bind fun b => if b = true then (if s.size = 0 then some (0, 0, false) else (impl_read.f _).bind fun g => perI k s 201 0 (fun _ => none) g.1 g.2.1 g.2.2) else some (0, 0, false) else some (0, 0, false)) (isTray_ev t ht0) ?_
 unfold PeriodOfWordR
 rcases ht : trayOf t with _ | ⟨w, h, cs⟩
 ·exact Ev.congr (Ev.const rfl) fun k => if_neg (by simp)
 ·have hread := tray_read ht
  obtain ⟨w, h, cs, e, hw1, hw, hh1, hh, hs, hn⟩ := tray_parts ht
  injection e with e1 e2
  injection e2 with e2 e3
  subst e1 e2 e3
  have hz : 0 < w * h := Nat.mul_pos hw1 hh1
  show Ev _ (if wordB s = true ∧ s.size ≠ 0 then _ else _)
  simp only [Int.toNat_natCast]
  by_cases hb : wordB s = true
  ·by_cases hz0 : s.size = 0
   ·rw [if_neg fun hh => hh.2 hz0]
    refine Ev.congr (Ev.const (o := some (0, 0, false)) rfl) fun k => ?_
    show (if true = true then _ else _) = _
    rw [if_pos rfl, isWord_eq, Option.bind_some, if_pos hb, if_pos hz0]
   ·rw [if_pos ⟨hb, hz0⟩]
    refine Ev.congr (perI_ev hw hh hs hw1 hh1 hb 201 0 [] cs rfl rfl hn) fun k => ?_
    show (if true = true then _ else _) = _
    rw [if_pos rfl, isWord_eq, Option.bind_some, if_pos hb, if_neg hz0, hread, Option.bind_some]
    rfl
  ·rw [if_neg fun hh => hb hh.1]
   refine Ev.congr (Ev.const (o := some (0, 0, false)) rfl) fun k => ?_
   show (if true = true then _ else _) = _
   rw [if_pos rfl, isWord_eq, Option.bind_some, if_neg hb]
theorem lawPeriodOfWord_ev (t : ByteArray) (s : ByteArray) : Ev (fun k => laws_FnExactPeriodOfWord.f k t s) true := by
 by_cases ht : t.size ≤ 1048576
 case neg =>
  refine Ev.congr (Ev.const (o := some true) rfl) fun k => ?_
  unfold laws_FnExactPeriodOfWord.f
  exact if_pos (by omega)
 by_cases hs : s.size ≤ 1048576
 case neg =>
  refine Ev.congr (Ev.const (o := some true) rfl) fun k => ?_
  unfold laws_FnExactPeriodOfWord.f
  rw [if_neg (by omega)]
  exact if_pos (by omega)
 have hsp := specPeriodOfWord_ev t s
 have him := implPeriodOfWord_ev t s ht
 refine Ev.congr (Ev.bind (f := fun k (bt101 : Int × Int × Bool) => ((impl_PeriodOfWord.f k t s).bind fun bt104 => (if bt104.1 = bt101.1 then (if bt104.2.1 = bt101.2.1 then (if (bt104.2.2 != bt101.2.2) = true then (some false) else (some true)) else (some false)) else (some false)))) hsp (Ev.bind (f := fun _ (bt104 : Int × Int × Bool) => (if bt104.1 = (PeriodOfWordR t s).1 then (if bt104.2.1 = (PeriodOfWordR t s).2.1 then (if (bt104.2.2 != (PeriodOfWordR t s).2.2) = true then (some false) else (some true)) else (some false)) else (some false))) him (Ev.const ?_))) fun k => by unfold laws_FnExactPeriodOfWord.f; rw [if_neg (by omega), if_neg (by omega)]
 rw [if_pos rfl, if_pos rfl, bne_self_eq_false, if_neg (by decide)]
end Go.Proofs.YtggdmblknkcigaaGreatDoor.Q
end
