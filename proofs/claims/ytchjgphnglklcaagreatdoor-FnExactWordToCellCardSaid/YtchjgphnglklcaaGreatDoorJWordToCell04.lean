/- Texts of this claim, joined. -/
import Derived.Test.YtchjgphnglklcaaGreatDoorJWordToCell03
import Derived.Test.YtchjgphnglklcaaGreatDoorJWordToCell01
import Derived.Test.YtchjgphnglklcaaGreatDoorJWordToCell02
import Derived.RangeFuncBox
import Derived.RangeFuncLeaves
import Derived.RangeFuncCalls
import Derived.Shelf.Abstract
import Derived.WalkKit
import Derived.OwnWalkIn
import Derived.TacticsInMore
import Derived.LoopNIn
import Derived.LoopIn
import Derived.Maps.AppendAt
import Derived.RangeFuncNested
import Derived.RangeFuncBound
import Derived.Laws.BytesArg
set_option linter.unusedVariables false
set_option linter.unusedSimpArgs false
set_option linter.unusedSectionVars false
section
namespace Go.Proofs.YtchjgphnglklcaaGreatDoor.Q
open Go.RowKit Go.Proofs.YtchjgphnglklcaaGreatDoorW.PrintWords Go.Proofs.YtchjgphnglklcaaGreatDoorW.PrintLast Go.Proofs.YtchjgphnglklcaaGreatDoorW.PrintMore
def spec_tyWalls.f (w h : Int) (cs : List Int) : Option (Int × Int × List Int) := if 0 < cs.length ∧ cs.length ≤ 1000 then some (w, h, emptyC cs) else none
theorem copy_val (w h : Int) (cs : List Int) (_h0 : 0 < cs.length) (hl : cs.length ≤ 1000) : spec_tyCopy.f w h cs = some (w, h, cs) := by
 unfold spec_tyCopy.f
 rw [Option.bind_some, if_pos (Nat.lt_of_le_of_lt (show ([] : List Int).length + cs.length ≤ 1000 by simpa using hl) (by decide))]
 rfl
structure EMs (w W : World) (gr go gb : Nat) (a b : Int) (n c : Nat) (xs : List Int) : Prop where
 below : Below w.heap.size w W
 res : W.heap[gr]? = some (.cells #[.int .i64 0, .int .i64 0, .slice none 0 0] 38 (0, 0))
 out : W.heap[go]? = some (.cells #[.int .i64 a, .int .i64 b, .slice (some ⟨gb, 0, none⟩) n c] 38 (0, 0))
 row : Kd.R (Kd.int .u8) 5 W w.heap.size (fun _ => True) (.slice (some ⟨gb, 0, none⟩) n c) xs
 gr0 : w.heap.size ≤ gr
 go0 : w.heap.size ≤ go
 gb0 : w.heap.size ≤ gb
 ne : gr ≠ go
 len : xs.length = n
section
variable {w W W1 : World} {gr go gb n c : Nat} {a b : Int} {xs : List Int}
theorem EMs.step (h : EMs w W gr go gb a b n c xs) (hb : Below W.heap.size W W1) : EMs w W1 gr go gb a b n c xs :=
 ⟨below_then h.below h.below.size hb, (hb.block _ (blk_lt h.res)).trans h.res, (hb.block _ (blk_lt h.out)).trans h.out, Kd.R_below h.row hb, h.gr0, h.go0, h.gb0, h.ne, h.len⟩
theorem EMs.neb (h : EMs w W gr go gb a b n c xs) : gr ≠ gb ∧ go ≠ gb :=
 ⟨fun e => Kd.R_ne h.row h.res (by decide) (by rw [e]; rfl), fun e => Kd.R_ne h.row h.out (by decide) (by rw [e]; rfl)⟩
theorem EMs.set (h : EMs w W gr go gb a b n c xs) (i x : Int) : EMs w (W.setCell ⟨gb, i.toNat, none⟩ (.int .u8 x)) gr go gb a b n c (xs.set i.toNat x) := by
 obtain ⟨n1, n2⟩ := h.neb
 exact ⟨below_set h.below h.gb0, blk_far h.res n1 _, blk_far h.out n2 _, (Kd.R_putg h.row i x).1, h.gr0, h.go0, h.gb0, h.ne, by rw [List.length_set]; exact h.len⟩
end
set_option maxHeartbeats 16000000 in
set_option maxRecDepth 100000 in
theorem spec_tyWalls.calls (a0_0 a0_1 : Int) (A0_2 : Option Addr) (c0_2 : Nat) (l0_2 : List Int) (r1 r2 : Int) (r3 : List Int) (w : World) (hr0_2 : Kd.C (Kd.int .u8) w A0_2 l0_2.length l0_2) (hc0_2 : l0_2.length ≤ c0_2) (h : spec_tyWalls.f a0_0 a0_1 l0_2 = some (r1, r2, r3)) :
  Calls Tryz.prog 70 #[.agg #[.int .i64 a0_0, .int .i64 a0_1, .slice A0_2 l0_2.length c0_2]] w fun e w' => ∃ v2_ : Value, e = .returned (.agg #[.int .i64 r1, .int .i64 r2, v2_]) ∧ Kd.R (Kd.int .u8) 5 w' w.heap.size (fun _ => True) v2_ r3 ∧ Below w.heap.size w w' := by
 unfold spec_tyWalls.f at h
 split at h
 case isFalse => cases h
 rename_i hl
 simp only [Option.some.injEq, Prod.mk.injEq] at h
 obtain ⟨rfl, rfl, rfl⟩ := h;have hu := Tryz.underlying38;have HR := Aside0.mk hr0_2;have HC := Aside0.mk hc0_2;have HL := Aside0.mk hl;have HV := Aside0.mk (copy_val a0_0 a0_1 l0_2 hl.1 hl.2);clear hr0_2 hc0_2 hl
 go_enter Tryz.func70, Tryz.ntmps70
 go_wp2_with (first
  | ((with_reducible refine gate_dst (N := 1) rfl ?_); refine box_event ?hg (N := 1) ?hd (cs := #[.int .i64 a0_0, .int .i64 a0_1, .slice A0_2 l0_2.length c0_2]) (t := 38) ?hr ?_; (case hd => rfl); (case hg => rfl); (case hr => first | (go_simp; done) | (go_simp; rfl)); intro gt hg w1 hbox hb; (have HB1 := Aside0.mk hb); (have HT := Aside0.mk hbox); clear hbox hb hg)
  | ((with_reducible refine gate_dst (N := 2) rfl ?_); refine box_event ?hg (N := 2) ?hd (cs := #[.int .i64 0, .int .i64 0, .slice none 0 0]) (t := 38) ?hr ?_; (case hd => rfl); (case hg => rfl); (case hr => first | (go_simp; done) | (go_simp; rfl)); intro gr hg w2 hbox hb; (have HG2 := Aside0.mk (show w.heap.size ≤ gr by rw [hg]; exact HB1.out.size)); (have HB2 := Aside0.mk (below_then HB1.out HB1.out.size hb)); (have HT2 := Aside0.mk ((hb.block gt (blk_lt HT.out)).trans HT.out)); (have HRS := Aside0.mk hbox); (have z0 := (blk_cell HT2.out 0).trans rfl); (have z1 := (blk_cell HT2.out 1).trans rfl); (have z2 := (blk_cell HT2.out 2).trans rfl); clear hbox hb hg HT HB1))
 refine (spec_tyCopy.calls a0_0 a0_1 _ c0_2 l0_2 a0_0 a0_1 l0_2 _ (Kd.C_below HR.out HB2.out) HC.out HV.out).mono ?_
 rintro e w3 ⟨v2, rfl, ho, hb3⟩
 obtain ⟨gb, c, rfl, hgb, hlb, cl, hcl⟩ := Kd.R_form ho HL.out.1;have HB3 := Aside0.mk (below_then HB2.out HB2.out.size hb3);have HRS3 := Aside0.mk ((hb3.block gr (blk_lt HRS.out)).trans HRS.out);have HO3 := Aside0.mk (Kd.R_lower ho HB2.out.size);have HGB := Aside0.mk (Nat.le_trans HB2.out.size hgb);clear z0 z1 z2 HT2 HRS HB2 ho hb3 hgb hlb hcl
 go_wp2_with (first
  | ((with_reducible refine gate_dst (N := 3) rfl ?_); refine box_event ?hg (N := 3) ?hd (cs := #[.int .i64 0, .int .i64 0, .slice none 0 0]) (t := 38) ?hr ?_; (case hd => rfl); (case hg => rfl); (case hr => first | (go_simp; done) | (go_simp; rfl)); intro go hg w4 hbox hb; (have HGO := Aside0.mk (show w.heap.size ≤ go by rw [hg]; exact HB3.out.size)); (have HNE := Aside0.mk (show gr ≠ go by rw [hg]; exact Nat.ne_of_lt (blk_lt HRS3.out))); (have HB4 := Aside0.mk (below_then HB3.out HB3.out.size hb)); (have HRS4 := Aside0.mk ((hb.block gr (blk_lt HRS3.out)).trans HRS3.out)); (have HO4 := Aside0.mk (Kd.R_below HO3.out hb)); (have HU := Aside0.mk hbox); (have y0 := (blk_cell HU.out 0).trans rfl); (have y1 := (blk_cell HU.out 1).trans rfl); (have y2 := (blk_cell HU.out 2).trans rfl); (have f0 := blk_frozen HU.out 0); (have f1 := blk_frozen HU.out 1); (have f2 := blk_frozen HU.out 2); clear hbox hb hg HB3 HRS3 HO3)
  | ((with_reducible refine gate_store (t := 38) (p := 3) rfl ?_); refine store_event (t := 38) (p := 3) (v := ?vo) (w1 := (((w4.setCell ⟨go, 0, none⟩ (.int .i64 a0_0)).setCell ⟨go, 1, none⟩ (.int .i64 a0_1)).setCell ⟨go, 2, none⟩ (.slice (some ⟨gb, 0, none⟩) l0_2.length c))) ?hg ?ho ?hn ?hr ?_; (case ho => rfl); (case hg => rfl); (case hn => rfl); (case hr => first | (go_simp; done) | (go_simp; rfl)); intro w5 hw; (have HE := Aside0.mk (show EMs w w5 gr go gb a0_0 a0_1 l0_2.length c l0_2 from by rw [hw]; exact ⟨below_set (below_set (below_set HB4.out HGO.out) HGO.out) HGO.out, blk_far (blk_far (blk_far HRS4.out HNE.out _) HNE.out _) HNE.out _, (by refine blk_put (cs := #[.int .i64 a0_0, .int .i64 a0_1, .slice none 0 0]) ?_ 2 _ rfl; refine blk_put (cs := #[.int .i64 a0_0, .int .i64 0, .slice none 0 0]) ?_ 1 _ rfl; refine blk_put (cs := #[.int .i64 0, .int .i64 0, .slice none 0 0]) ?_ 0 _ rfl; exact HU.out), Kd.R_mono (Kd.R_far (p := ⟨go, 2, none⟩) (Kd.R_far (p := ⟨go, 1, none⟩) (Kd.R_far (p := ⟨go, 0, none⟩) (Kd.R_types HO4.out HU.out (by decide)) (fun _ hk => hk.2) (.int .i64 a0_0)) (fun _ hk => hk.2) (.int .i64 a0_1)) (fun _ hk => hk.2) (.slice (some ⟨gb, 0, none⟩) l0_2.length c)) (fun _ _ => trivial), HG2.out, HGO.out, HGB.out, HNE.out, rfl⟩)); clear hw HU HO4 HRS4 HB4 y0 y1 y2 f0 f1 f2; (have y0 := (blk_cell HE.out.out 0).trans rfl); (have y1 := (blk_cell HE.out.out 1).trans rfl); (have y2 := (blk_cell HE.out.out 2).trans rfl)))
 have HE0 := Aside0.mk (show EMs w w5 gr go gb a0_0 a0_1 l0_2.length c (halfE l0_2 0) from HE.out);have HL2 := Aside0.mk HL.out.2;clear HE y0 y1 y2
 go_loopg [11] l0_2.length (fun gg v11 wr => ∃ t : Nat, v11 = .int .i64 t ∧ Aside0 (t ≤ l0_2.length ∧ l0_2.length - t ≤ gg) ∧ Aside0 (EMs w wr gr go gb a0_0 a0_1 l0_2.length c (halfE l0_2 t)))
 case atStart => exact ⟨0, rfl, ⟨Nat.zero_le _, by omega⟩, HE0⟩
 case round =>
  clear HE0;obtain ⟨t, rfl, HA, HE⟩ := hrel;have y0 := (blk_cell HE.out.out 0).trans rfl;have y1 := (blk_cell HE.out.out 1).trans rfl;have y2 := (blk_cell HE.out.out 2).trans rfl
  have hwt : wrap64 ((t : Int) + 1) = ((t + 1 : Nat) : Int) := by
   have := HA.out;have := HL2.out;unfold wrap64
   omega
  by_cases hlt : t < l0_2.length
  ·have c1 : decide ((t : Int) < (l0_2.length : Int)) = true := decide_eq_true (by omega)
   have p1 : (0 ≤ (t : Int)) = True := eq_true (by omega);have p2 : ((t : Int) < (l0_2.length : Int)) = True := eq_true (by omega);obtain ⟨x0, x1⟩ := Kd.R_celln 0 HE.out.row (t : Int) (by omega) (by omega)
   rw [halfE_at l0_2 t hlt] at x0
   rw [Int.toNat_natCast] at x0 x1
   have hsucc := halfE_succ l0_2 t hlt;generalize rd l0_2 (t : Int) = v at x0 hsucc;have HS := Aside0.mk hsucc;clear hsucc
   cases hb : isB v with
   | true =>
    have hv := tyBall_eq v
    rw [hb] at hv
    have HV2 := Aside0.mk hv;clear hv
    go_wp2_with (go_at_call 69; refine (spec_tyBall.calls v true _ HV2.out).mono ?_; rintro e w6 ⟨rfl, ⟨nd, rfl⟩⟩; (have HE6 := Aside0.mk (HE.out.step (pw_below_drewN (Below.refl _ _) nd))); clear y0 y1 y2 x0 x1; (have y0 := (blk_cell HE6.out.out 0).trans rfl); (have y1 := (blk_cell HE6.out.out 1).trans rfl); (have y2 := (blk_cell HE6.out.out 2).trans rfl); (obtain ⟨x0, x1⟩ := Kd.R_celln 0 HE6.out.row (t : Int) (by omega) (by omega)); rw [Int.toNat_natCast] at x0 x1)
    go_roundg (l0_2.length - (t + 1))
    case measure => have := HA.out; omega
    case rel =>
     refine ⟨t + 1, by first | rfl | rw [hwt], ⟨by have := HA.out; omega, Nat.le_refl _⟩, ?_⟩
     have h8 := HE6.out.set (t : Int) 46
     rw [Int.toNat_natCast] at h8
     rw [HS.out, if_pos hb]
     exact ⟨h8⟩
   | false =>
    have hv := tyBall_eq v
    rw [hb] at hv
    have HV2 := Aside0.mk hv;clear hv
    go_wp2_with (go_at_call 69; refine (spec_tyBall.calls v false _ HV2.out).mono ?_; rintro e w6 ⟨rfl, ⟨nd, rfl⟩⟩; (have HE6 := Aside0.mk (HE.out.step (pw_below_drewN (Below.refl _ _) nd))); clear y0 y1 y2 x0 x1; (have y0 := (blk_cell HE6.out.out 0).trans rfl); (have y1 := (blk_cell HE6.out.out 1).trans rfl); (have y2 := (blk_cell HE6.out.out 2).trans rfl); (obtain ⟨x0, x1⟩ := Kd.R_celln 0 HE6.out.row (t : Int) (by omega) (by omega)); rw [Int.toNat_natCast] at x0 x1)
    go_roundg (l0_2.length - (t + 1))
    case measure => have := HA.out; omega
    case rel =>
     refine ⟨t + 1, by first | rfl | rw [hwt], ⟨by have := HA.out; omega, Nat.le_refl _⟩, ?_⟩
     rw [HS.out, if_neg (by rw [hb]; decide)]
     exact HE6
  ·have hAt := HA.out.1
   obtain rfl : t = l0_2.length := by omega
   have c1 : decide ((l0_2.length : Int) < (l0_2.length : Int)) = false := decide_eq_false (by omega);clear hAt HA hlt hwt
   rw [halfE_all] at HE
   have r0 := (blk_cell HE.out.res 0).trans rfl;have r1 := (blk_cell HE.out.res 1).trans rfl;have r2 := (blk_cell HE.out.res 2).trans rfl;have g0 := blk_frozen HE.out.res 0;have g1 := blk_frozen HE.out.res 1;have g2 := blk_frozen HE.out.res 2
   go_wp2_with fail
   refine bodyPost_ret (results_cell_row rfl _ _ gr 38 #[.int .i64 a0_0, .int .i64 a0_1, .slice (some ⟨gb, 0, none⟩) l0_2.length c] (0, 0) _ rfl (by refine blk_put (cs := #[.int .i64 a0_0, .int .i64 a0_1, .slice none 0 0]) ?_ 2 _ rfl; refine blk_put (cs := #[.int .i64 a0_0, .int .i64 0, .slice none 0 0]) ?_ 1 _ rfl; refine blk_put (cs := #[.int .i64 0, .int .i64 0, .slice none 0 0]) ?_ 0 _ rfl; exact HE.out.res) Tryz.underlying38 rfl (by kernel_rfl)) rfl ?_
   exact ⟨_, rfl, Kd.R_mono (Kd.R_far (p := ⟨gr, 2, none⟩) (Kd.R_far (p := ⟨gr, 1, none⟩) (Kd.R_far (p := ⟨gr, 0, none⟩) (Kd.R_types HE.out.row HE.out.res (by decide)) (fun _ hk => hk.2) (.int .i64 a0_0)) (fun _ hk => hk.2) (.int .i64 a0_1)) (fun _ hk => hk.2) (.slice (some ⟨gb, 0, none⟩) l0_2.length c)) (fun _ _ => trivial), below_set (below_set (below_set HE.out.below HE.out.gr0) HE.out.gr0) HE.out.gr0⟩
end Go.Proofs.YtchjgphnglklcaaGreatDoor.Q
end
section
namespace Go.Proofs.YtchjgphnglklcaaGreatDoor.Q
open Go.RowKit Go.Proofs.YtchjgphnglklcaaGreatDoorW.PrintWords Go.Proofs.YtchjgphnglklcaaGreatDoorW.PrintLast Go.Proofs.YtchjgphnglklcaaGreatDoorW.PrintMore
attribute [local go_sem] max2_int min2_int max_two min_two max_three min_three max_four min_four
set_option linter.unusedVariables false
set_option linter.unusedSimpArgs false
mutual
def spec_tiTilt.l0 : Nat → List (List Int) → Int → Int → Int → Int → List Int → Int → Int → List Int → Option (Int × Int × List Int)
 | 0, _, _, _, _, _, _, _, _, _ => none
 | k + 1, x15, x16, x17, x102000, x102001, x102002, x109000, x109001, x109002 => if x17 < x16 then (if 0 ≤ x17 then (if x17 < (x15.length : Int) then (spec_tiTilt.l1 k (rd_Lii x15 x17) 0 x15 x16 x17 (rd_Lii x15 x17) ((rd_Lii x15 x17).length : Int) 0 x102000 x102001 x102002 x109000 x109001 x109002) else (none)) else (none)) else (some (x109000, x109001, x109002))
def spec_tiTilt.l1 : Nat → List Int → Int → List (List Int) → Int → Int → List Int → Int → Int → Int → Int → List Int → Int → Int → List Int → Option (Int × Int × List Int)
 | 0, _, _, _, _, _, _, _, _, _, _, _, _, _, _ => none
 | k + 1, x7, x8, x15, x16, x17, x21, x22, x23, x102000, x102001, x102002, x109000, x109001, x109002 => if x23 < x22 then (if 0 ≤ x23 then (if x23 < (x21.length : Int) then (if 0 ≤ (rd x21 x23) then (if (rd x21 x23) < (x102002.length : Int) then ((spec_tyBall.f (rd x102002 (rd x21 x23))).bind fun t115 => (if t115 = true then (if 0 ≤ x8 then (if x8 < (x7.length : Int) then (if 0 ≤ (rd x7 x8) then (if (rd x7 x8) < (x109002.length : Int) then (spec_tiTilt.l1 k x7 (wrap64 (x8 + 1)) x15 x16 x17 x21 x22 (wrap64 (x23 + 1)) x102000 x102001 x102002 x109000 x109001 (x109002.set ((rd x7 x8) : Int).toNat (rd x102002 (rd x21 x23)))) else (none)) else (none)) else (none)) else (none)) else (spec_tiTilt.l1 k x7 x8 x15 x16 x17 x21 x22 (wrap64 (x23 + 1)) x102000 x102001 x102002 x109000 x109001 x109002))) else (none)) else (none)) else (none)) else (none)) else (spec_tiTilt.l0 k x15 x16 (wrap64 (x17 + 1)) x102000 x102001 x102002 x109000 x109001 x109002)
end
def spec_tiTilt.f (k : Nat) (a0_0 : Int) (a0_1 : Int) (l0_2 : List Int) (a1 : Int) : Option (Int × Int × List Int) := (spec_tyWalls.f a0_0 a0_1 l0_2).bind fun bt103 => ((spec_tiStretches.f k a0_0 a0_1 l0_2 a1).bind fun t109 => (spec_tiTilt.l0 k t109 (t109.length : Int) 0 a0_0 a0_1 l0_2 bt103.1 bt103.2.1 bt103.2.2))
def spec_tiTilt.T10 : Bool × List (List Nat × List Nat) := (true, [([], []), ([0], [0]), ([], []), ([], []), ([2, 3], [2, 3]), ([4], [4]), ([], []), ([6], [6]), ([], []), ([7, 8], [7, 8]), ([9], [9]), ([1, 5, 0, 1, 2, 3, 4, 5, 6, 7, 8, 9, 10], [1, 5]), ([11, 10, 0, 1, 2, 3, 4, 5, 6, 7, 8, 9, 10], [10, 11])])
def spec_tiTilt.B10 : List Nat := [0, 1, 0, 0, 12, 28, 0, 64, 0, 448, 960, 2047, 4095]
theorem spec_tiTilt.tab10 : rtab .any (opsOf Tryz.f48 10) = spec_tiTilt.T10 := by kernel_rfl
theorem spec_tiTilt.bits10 : waitsOk spec_tiTilt.T10.2 spec_tiTilt.B10 = true := by kernel_rfl
set_option maxHeartbeats 8000000 in
set_option maxRecDepth 100000 in
theorem spec_tiTilt.calls (k : Nat) (a0_0 : Int) (a0_1 : Int) (A0_2 : Option Addr) (c0_2 : Nat) (l0_2 : List Int) (a1 : Int) (r1 : Int) (r2 : Int) (r3 : List Int) (w : World) (hr0_2 : Kd.C (Kd.int .u8) w A0_2 l0_2.length l0_2) (hc0_2 : l0_2.length ≤ c0_2) (h : spec_tiTilt.f k a0_0 a0_1 l0_2 a1 = some (r1, r2, r3)) :
  Calls Tryz.prog 48 #[.agg #[.int .i64 a0_0, .int .i64 a0_1, .slice A0_2 l0_2.length c0_2], .int .i64 a1] w fun e w' => ∃ v2_ : Value, e = .returned (.agg #[.int .i64 r1, .int .i64 r2, v2_]) ∧ Kd.R (Kd.int .u8) 5 w' w.heap.size (fun _ => True) v2_ r3 ∧ Below w.heap.size w w' := by
 have hu38 := Tryz.underlying38;have HR0_2 := Aside0.mk hr0_2;have HC0_2 := Aside0.mk hc0_2;clear hr0_2 hc0_2;have HB := Aside0.mk (Below.refl w.heap.size w);have H : ((spec_tyWalls.f a0_0 a0_1 l0_2).bind fun bt103 => ((spec_tiStretches.f k a0_0 a0_1 l0_2 a1).bind fun t109 => (spec_tiTilt.l0 k t109 (t109.length : Int) 0 a0_0 a0_1 l0_2 bt103.1 bt103.2.1 bt103.2.2))) = some (r1, r2, r3) := h;clear h;replace H := Option.bind_eq_some_iff.mp H;obtain ⟨⟨t103, t104, t105⟩, A30, H⟩ := H;replace H : ((spec_tiStretches.f k a0_0 a0_1 l0_2 a1).bind fun t109 => (spec_tiTilt.l0 k t109 (t109.length : Int) 0 a0_0 a0_1 l0_2 t103 t104 t105)) = some (r1, r2, r3) := H;have A3 := Aside0.mk A30;clear A30;replace H := Option.bind_eq_some_iff.mp H;obtain ⟨t109, A40, H⟩ := H;replace H : (spec_tiTilt.l0 k t109 (t109.length : Int) 0 a0_0 a0_1 l0_2 t103 t104 t105) = some (r1, r2, r3) := H;have A4 := Aside0.mk A40;clear A40;have H' := Aside0.mk H;clear H
 go_enter Tryz.func48, Tryz.ntmps48
 go_wp2_with (first | ((with_reducible refine gate_dst (N := 2) rfl ?_); refine boxE (N := 2) (cs := #[.int .i64 a0_0, .int .i64 a0_1, .slice A0_2 l0_2.length c0_2]) (t := 38) ?_; intro gb101 hg w5 hbox hb; have n0_ := Aside0.mk (below_step (bel HB) hb); have n1_ := Aside0.mk (hbox); have n2_ := Aside0.mk (gsz hg (bel HB)); have n3_ := Aside0.mk (gsz hg (bel HB)); clear HB; have HB := n0_; have BK101 := n1_; have GW101 := n2_; have GE101 := n3_; clear n0_ n1_ n2_ n3_; clear hb hbox hg) | ((with_reducible refine gate_dst (N := 4) rfl ?_); refine boxE (N := 4) (cs := #[.int .i64 0, .int .i64 0, .slice none 0 0]) (t := 38) ?_; intro gb102 hg w6 hbox hb; have n0_ := Aside0.mk (blk_below (g := gb101) (o := .cells #[.int .i64 a0_0, .int .i64 a0_1, .slice A0_2 l0_2.length c0_2] 38 (0, 0)) blc hb); have n1_ := Aside0.mk (below_step (bel HB) hb); have n2_ := Aside0.mk (hbox); have n3_ := Aside0.mk (gsz hg (bel HB)); have n4_ := Aside0.mk (gsz hg (bel HB)); have n5_ := Aside0.mk ((by rw [hg]; exact Nat.ne_of_lt (blk_lt (g := gb101) (o := .cells #[.int .i64 a0_0, .int .i64 a0_1, .slice A0_2 l0_2.length c0_2] 38 (0, 0)) blc) : gb101 ≠ gb102)); have n6_ := Aside0.mk ((by rw [hg]; exact Nat.ne_of_gt (blk_lt (g := gb101) (o := .cells #[.int .i64 a0_0, .int .i64 a0_1, .slice A0_2 l0_2.length c0_2] 38 (0, 0)) blc) : gb102 ≠ gb101)); clear BK101; clear HB; have BK101 := n0_; have HB := n1_; have BK102 := n2_; have GW102 := n3_; have GE102 := n4_; have NB101_102 := n5_; have NB102_101 := n6_; clear n0_ n1_ n2_ n3_ n4_ n5_ n6_; clear hb hbox hg; have hnb7 := NB101_102.out; have hnc7 := NB102_101.out; have hcz8_0 : w6.cell? ⟨gb101, 0, none⟩ = some (.int .i64 a0_0) := (blk_cell BK101.out 0).trans rfl; have hcz8_1 : w6.cell? ⟨gb101, 1, none⟩ = some (.int .i64 a0_1) := (blk_cell BK101.out 1).trans rfl; have hcz8_2 : w6.cell? ⟨gb101, 2, none⟩ = some (.slice A0_2 l0_2.length c0_2) := (blk_cell BK101.out 2).trans rfl; have hfz8_0 := blk_frozen BK101.out 0; have hfz8_1 := blk_frozen BK101.out 1; have hfz8_2 := blk_frozen BK101.out 2) | ((with_reducible refine gate_callee (f := 70) rfl ?_); refine gcall (some 12) Tryz.func70 #[.agg #[.int .i64 a0_0, .int .i64 a0_1, .slice A0_2 l0_2.length c0_2]] rfl ?_; (with_reducible refine (spec_tyWalls.calls a0_0 a0_1 _ _ l0_2 t103 t104 t105 _ ?side1 ?side2 A3.out).mono ?_); (case side1 => repeat (first | exact (Kd.C_below HR0_2.out HB.out) | (with_reducible refine Kd.C_alloc ?_ _) | (with_reducible refine Kd.C_drewN ?_ _) | (with_reducible refine Kd.C_drew ?_))); (case side2 => exact HC0_2.out); rintro e w9 ⟨v106, rfl, ho0, hb⟩; refine ⟨_, rfl, ?_⟩; have n0_ := Aside0.mk (Kd.R_lower ho0 (below_size (bel HB))); have n1_ := Aside0.mk (blk_below (g := gb101) (o := .cells #[.int .i64 a0_0, .int .i64 a0_1, .slice A0_2 l0_2.length c0_2] 38 (0, 0)) blc hb); have n2_ := Aside0.mk (blk_below (g := gb102) (o := .cells #[.int .i64 0, .int .i64 0, .slice none 0 0] 38 (0, 0)) blc hb); have n3_ := Aside0.mk (below_step (bel HB) hb); clear BK101; clear BK102; clear HB; have HO107 := n0_; have BK101 := n1_; have BK102 := n2_; have HB := n3_; clear n0_ n1_ n2_ n3_; (try clear hb); (try clear hb2); (try clear hk); (try clear hi); (try clear ho0)) | ((with_reducible refine gate_dst (N := 5) rfl ?_); refine boxE (N := 5) (cs := #[.int .i64 0, .int .i64 0, .slice none 0 0]) (t := 38) ?_; intro gb108 hg w10 hbox hb; have n0_ := Aside0.mk (Kd.R_below (rch HO107) hb); have n1_ := Aside0.mk (blk_below (g := gb101) (o := .cells #[.int .i64 a0_0, .int .i64 a0_1, .slice A0_2 l0_2.length c0_2] 38 (0, 0)) blc hb); have n2_ := Aside0.mk (blk_below (g := gb102) (o := .cells #[.int .i64 0, .int .i64 0, .slice none 0 0] 38 (0, 0)) blc hb); have n3_ := Aside0.mk (below_step (bel HB) hb); have n4_ := Aside0.mk (hbox); have n5_ := Aside0.mk (gsz hg (bel HB)); have n6_ := Aside0.mk (gsz hg (bel HB)); have n7_ := Aside0.mk ((by rw [hg]; exact Nat.ne_of_lt (blk_lt (g := gb101) (o := .cells #[.int .i64 a0_0, .int .i64 a0_1, .slice A0_2 l0_2.length c0_2] 38 (0, 0)) blc) : gb101 ≠ gb108)); have n8_ := Aside0.mk ((by rw [hg]; exact Nat.ne_of_gt (blk_lt (g := gb101) (o := .cells #[.int .i64 a0_0, .int .i64 a0_1, .slice A0_2 l0_2.length c0_2] 38 (0, 0)) blc) : gb108 ≠ gb101)); have n9_ := Aside0.mk ((by rw [hg]; exact Nat.ne_of_lt (blk_lt (g := gb102) (o := .cells #[.int .i64 0, .int .i64 0, .slice none 0 0] 38 (0, 0)) blc) : gb102 ≠ gb108)); have n10_ := Aside0.mk ((by rw [hg]; exact Nat.ne_of_gt (blk_lt (g := gb102) (o := .cells #[.int .i64 0, .int .i64 0, .slice none 0 0] 38 (0, 0)) blc) : gb108 ≠ gb102)); clear HO107; clear BK101; clear BK102; clear HB; have HO107 := n0_; have BK101 := n1_; have BK102 := n2_; have HB := n3_; have BK108 := n4_; have GW108 := n5_; have GE108 := n6_; have NB101_108 := n7_; have NB108_101 := n8_; have NB102_108 := n9_; have NB108_102 := n10_; clear n0_ n1_ n2_ n3_ n4_ n5_ n6_ n7_ n8_ n9_ n10_; clear hb hbox hg; have hnb11 := NB108_101.out; have hnc11 := NB101_108.out; have hnb12 := NB108_102.out; have hnc12 := NB102_108.out; have hcz13_0 : w10.cell? ⟨gb108, 0, none⟩ = some (.int .i64 0) := (blk_cell BK108.out 0).trans rfl; have hcz13_1 : w10.cell? ⟨gb108, 1, none⟩ = some (.int .i64 0) := (blk_cell BK108.out 1).trans rfl; have hcz13_2 : w10.cell? ⟨gb108, 2, none⟩ = some (.slice none 0 0) := (blk_cell BK108.out 2).trans rfl; have hfz13_0 := blk_frozen BK108.out 0; have hfz13_1 := blk_frozen BK108.out 1; have hfz13_2 := blk_frozen BK108.out 2; obtain ⟨Ao14, co14, eo14⟩ := Kd.R_slice HO107.out; subst eo14; have hcz15_0 : w10.cell? ⟨gb101, 0, none⟩ = some (.int .i64 a0_0) := (blk_cell BK101.out 0).trans rfl; have hcz15_1 : w10.cell? ⟨gb101, 1, none⟩ = some (.int .i64 a0_1) := (blk_cell BK101.out 1).trans rfl; have hcz15_2 : w10.cell? ⟨gb101, 2, none⟩ = some (.slice A0_2 l0_2.length c0_2) := (blk_cell BK101.out 2).trans rfl; have hfz15_0 := blk_frozen BK101.out 0; have hfz15_1 := blk_frozen BK101.out 1; have hfz15_2 := blk_frozen BK101.out 2) | ((with_reducible refine gate_callee (f := 71) rfl ?_); refine gcall (some 15) Tryz.func71 #[.agg #[.int .i64 a0_0, .int .i64 a0_1, .slice A0_2 l0_2.length c0_2], .int .i64 a1] rfl ?_; (with_reducible refine (spec_tiStretches.calls k a0_0 a0_1 _ _ l0_2 a1 t109 _ ?side1 ?side2 A4.out).mono ?_); (case side1 => exact Kd.C_below HR0_2.out (bel HB)); (case side2 => exact HC0_2.out); rintro e w16 ⟨v110, rfl, ho0, hb⟩; refine ⟨_, rfl, ?_⟩; have n0_ := Aside0.mk (Kd.R_below (by (with_reducible repeat (first | apply Kd.R_alloc | apply Kd.R_drewN | apply Kd.R_drew)); exact (Kd.R_mono (Kd.R_far (p := ⟨gb108, 2, none⟩) (Kd.R_far (p := ⟨gb108, 1, none⟩) (Kd.R_far (p := ⟨gb108, 0, none⟩) (Kd.R_types HO107.out BK108.out (by decide)) (fun _ hk => hk.2) (.int .i64 t103)) (fun _ hk => hk.2) (.int .i64 t104)) (fun _ hk => hk.2) (.slice Ao14 t105.length co14)) (fun _ h_ => h_.1))) hb); have n1_ := Aside0.mk (Kd.N_lower (Kd.N_mono (ok' := fun k_ => some k_ ≠ (.slice Ao14 t105.length co14 : Value).ownBlock ∧ k_ ≠ gb101 ∧ k_ ≠ gb102 ∧ k_ ≠ gb108) ho0 (fun k_ hk_ => ⟨(Kd.fresh' (Kd.R_lt (by (with_reducible repeat (first | apply Kd.R_alloc | apply Kd.R_drewN | apply Kd.R_drew)); exact (Kd.R_mono (Kd.R_far (p := ⟨gb108, 2, none⟩) (Kd.R_far (p := ⟨gb108, 1, none⟩) (Kd.R_far (p := ⟨gb108, 0, none⟩) (Kd.R_types HO107.out BK108.out (by decide)) (fun _ hk => hk.2) (.int .i64 t103)) (fun _ hk => hk.2) (.int .i64 t104)) (fun _ hk => hk.2) (.slice Ao14 t105.length co14)) (fun _ h_ => h_.1)))) k_ hk_), (Kd.freshB (g := gb101) (o := .cells #[.int .i64 a0_0, .int .i64 a0_1, .slice A0_2 l0_2.length c0_2] 38 (0, 0)) (by (with_reducible repeat (first | refine blk_drewN ?_ _ | refine blk_drew ?_ | refine blk_alloc ?_ _)); refine blk_far ?_ NB101_108.out _; (with_reducible repeat (first | refine blk_drewN ?_ _ | refine blk_drew ?_ | refine blk_alloc ?_ _)); refine blk_far ?_ NB101_108.out _; (with_reducible repeat (first | refine blk_drewN ?_ _ | refine blk_drew ?_ | refine blk_alloc ?_ _)); refine blk_far ?_ NB101_108.out _; exact blc) k_ hk_), (Kd.freshB (g := gb102) (o := .cells #[.int .i64 0, .int .i64 0, .slice none 0 0] 38 (0, 0)) (by (with_reducible repeat (first | refine blk_drewN ?_ _ | refine blk_drew ?_ | refine blk_alloc ?_ _)); refine blk_far ?_ NB102_108.out _; (with_reducible repeat (first | refine blk_drewN ?_ _ | refine blk_drew ?_ | refine blk_alloc ?_ _)); refine blk_far ?_ NB102_108.out _; (with_reducible repeat (first | refine blk_drewN ?_ _ | refine blk_drew ?_ | refine blk_alloc ?_ _)); refine blk_far ?_ NB102_108.out _; exact blc) k_ hk_), (Kd.freshB (g := gb108) (o := .cells #[.int .i64 t103, .int .i64 t104, .slice Ao14 t105.length co14] 38 (0, 0)) (by (with_reducible repeat (first | refine blk_drewN ?_ _ | refine blk_drew ?_ | refine blk_alloc ?_ _)); refine blk_put (cs := #[.int .i64 t103, .int .i64 t104, .slice none 0 0]) ?_ 2 _ rfl; (with_reducible repeat (first | refine blk_drewN ?_ _ | refine blk_drew ?_ | refine blk_alloc ?_ _)); refine blk_put (cs := #[.int .i64 t103, .int .i64 0, .slice none 0 0]) ?_ 1 _ rfl; (with_reducible repeat (first | refine blk_drewN ?_ _ | refine blk_drew ?_ | refine blk_alloc ?_ _)); refine blk_put (cs := #[.int .i64 0, .int .i64 0, .slice none 0 0]) ?_ 0 _ rfl; exact blc) k_ hk_)⟩)) (below_size (bel HB))); have n2_ := Aside0.mk (blk_below (g := gb101) (o := .cells #[.int .i64 a0_0, .int .i64 a0_1, .slice A0_2 l0_2.length c0_2] 38 (0, 0)) (by (with_reducible repeat (first | refine blk_drewN ?_ _ | refine blk_drew ?_ | refine blk_alloc ?_ _)); refine blk_far ?_ NB101_108.out _; (with_reducible repeat (first | refine blk_drewN ?_ _ | refine blk_drew ?_ | refine blk_alloc ?_ _)); refine blk_far ?_ NB101_108.out _; (with_reducible repeat (first | refine blk_drewN ?_ _ | refine blk_drew ?_ | refine blk_alloc ?_ _)); refine blk_far ?_ NB101_108.out _; exact blc) hb); have n3_ := Aside0.mk (blk_below (g := gb102) (o := .cells #[.int .i64 0, .int .i64 0, .slice none 0 0] 38 (0, 0)) (by (with_reducible repeat (first | refine blk_drewN ?_ _ | refine blk_drew ?_ | refine blk_alloc ?_ _)); refine blk_far ?_ NB102_108.out _; (with_reducible repeat (first | refine blk_drewN ?_ _ | refine blk_drew ?_ | refine blk_alloc ?_ _)); refine blk_far ?_ NB102_108.out _; (with_reducible repeat (first | refine blk_drewN ?_ _ | refine blk_drew ?_ | refine blk_alloc ?_ _)); refine blk_far ?_ NB102_108.out _; exact blc) hb); have n4_ := Aside0.mk (blk_below (g := gb108) (o := .cells #[.int .i64 t103, .int .i64 t104, .slice Ao14 t105.length co14] 38 (0, 0)) (by (with_reducible repeat (first | refine blk_drewN ?_ _ | refine blk_drew ?_ | refine blk_alloc ?_ _)); refine blk_put (cs := #[.int .i64 t103, .int .i64 t104, .slice none 0 0]) ?_ 2 _ rfl; (with_reducible repeat (first | refine blk_drewN ?_ _ | refine blk_drew ?_ | refine blk_alloc ?_ _)); refine blk_put (cs := #[.int .i64 t103, .int .i64 0, .slice none 0 0]) ?_ 1 _ rfl; (with_reducible repeat (first | refine blk_drewN ?_ _ | refine blk_drew ?_ | refine blk_alloc ?_ _)); refine blk_put (cs := #[.int .i64 0, .int .i64 0, .slice none 0 0]) ?_ 0 _ rfl; exact blc) hb); have n5_ := Aside0.mk (below_step (bel HB) hb); clear HO107; clear BK101; clear BK102; clear BK108; clear HB; have HO107 := n0_; have HO111 := n1_; have BK101 := n2_; have BK102 := n3_; have BK108 := n4_; have HB := n5_; clear n0_ n1_ n2_ n3_ n4_ n5_; (try clear hb); (try clear hb2); (try clear hk); (try clear hi); (try clear ho0); obtain ⟨Ao17, co17, eo17⟩ := Kd.N_slice HO111.out; subst eo17))
 go_loopg [17] k (fun kq v17 w' => ∃ (x17_1 : Int) (x109002_1 : List Int) (u109002 : Value), v17 = .int .i64 x17_1 ∧ Aside0 (spec_tiTilt.l0 kq t109 (t109.length : Int) x17_1 a0_0 a0_1 l0_2 t103 t104 x109002_1 = some (r1, r2, r3)) ∧ Aside0 (kq ≤ k) ∧ Aside0 (Kd.N (Kd.slice 3 (Kd.int .i64)) 39 w' w.heap.size (fun k_ => some k_ ≠ (u109002 : Value).ownBlock ∧ k_ ≠ gb101 ∧ k_ ≠ gb102 ∧ k_ ≠ gb108) (.slice Ao17 t109.length co17) t109) ∧ Aside0 (Kd.R (Kd.int .u8) 5 w' w.heap.size (fun _ => True) u109002 x109002_1) ∧ Aside0 (w'.heap[gb101]? = some (.cells #[.int .i64 a0_0, .int .i64 a0_1, (.slice A0_2 l0_2.length c0_2)] 38 (0, 0))) ∧ Aside0 (w'.heap[gb102]? = some (.cells #[.int .i64 0, .int .i64 0, (.slice none 0 0)] 38 (0, 0))) ∧ Aside0 (w'.heap[gb108]? = some (.cells #[.int .i64 t103, .int .i64 t104, u109002] 38 (0, 0))) ∧ Aside0 (Below w.heap.size w w'))
 case atStart => exact ⟨(0), (t105), (.slice Ao14 t105.length co14), (by first | rfl | (simp; done) | (simp [*]; done)), H', ⟨Nat.le_refl _⟩, ⟨by (with_reducible repeat (first | apply Kd.N_alloc | apply Kd.N_drewN | apply Kd.N_drew)); (first | exact HO111.out | exact R_any HO111.out)⟩, ⟨rch HO107⟩, ⟨blc⟩, ⟨blc⟩, ⟨blc⟩, ⟨bel HB⟩⟩
 case round =>
  clear H'
  try clear c1
  try clear p2
  try clear c4
  try clear c7
  try clear c11
  try clear c12
  try clear hcz13_0
  try clear hcz13_1
  try clear hcz13_2
  try clear hcz15_0
  try clear hcz15_1
  try clear hcz15_2
  try clear hcz8_0
  try clear hcz8_1
  try clear hcz8_2
  try clear hfz13_0
  try clear hfz13_1
  try clear hfz13_2
  try clear hfz15_0
  try clear hfz15_1
  try clear hfz15_2
  try clear hfz8_0
  try clear hfz8_1
  try clear hfz8_2
  obtain ⟨x17_1, x109002_1, u109002, rfl, HA, HK1, HO_15, HO_109002, BK101, BK102, BK108, HB⟩ := hrel
  cases gk with
  | zero => exact absurd HA.out (by simp [spec_tiTilt.l0])
  | succ k1 =>
   have H := HA.out;clear HA
   simp only [spec_tiTilt.l0] at H
   by_cases c18 : x17_1 < (t109.length : Int)
   ·rw [if_pos c18] at H
    have c18b0 : decide (x17_1 < (t109.length : Int)) = true := decide_eq_true c18;clear c18
    by_cases c19 : 0 ≤ x17_1
    ·rw [if_pos c19] at H
     have c19b0 : decide (0 ≤ x17_1) = true := decide_eq_true c19;clear c19
     by_cases c20 : x17_1 < (t109.length : Int)
     ·rw [if_pos c20] at H
      have c20b0 : decide (x17_1 < (t109.length : Int)) = true := decide_eq_true c20;clear c20;have H' := Aside0.mk H;clear H;have p112 : 0 ≤ (x17_1 : Int) := of_decide_eq_true (by first | (with_reducible assumption) | assumption);have q112 : x17_1 < (t109.length : Int) := of_decide_eq_true (by first | (with_reducible assumption) | assumption);obtain ⟨ad112, A112_0, c112_0, e112, hx112_0, hl112_0, hi112_0⟩ := at_Lii (Kd.N_reads' HO_15.out).2.2 x17_1 p112 q112
      cases e112
      obtain ⟨ce112, hce112, hMe112, hcc112⟩ := Kd.N_get HO_15.out [] x17_1 p112 (by first | exact q112 | exact of_decide_eq_true (by first | (with_reducible assumption) | assumption) | (have e_ := (Kd.N_reads' HO_15.out).1; omega));obtain ⟨ua112_0, uc112_0, rfl, ul112_0, ge112_0⟩ := Kd.FK_slice_open hMe112;have hv112_0 := hcc112 0 _ rfl
      rw [Nat.add_zero, show ((Kd.slice 3 (Kd.int .i64))).sz = 1 from rfl, Nat.mul_one] at hv112_0
      replace hv112_0 := Option.some.inj (hv112_0.symm.trans hx112_0)
      injection hv112_0 with hva_ hvn_ hvc_
      rw [hva_] at ge112_0
      rw [hvc_] at ul112_0
      have HL112_0 := Aside0.mk (show Kd.V (Kd.int .i64) 3 _ w.heap.size _ _ (rd_Lii t109 x17_1) from Kd.V_mk ul112_0 ge112_0);clear hva_ hvn_ hvc_ ge112_0 ul112_0;clear hcc112 hce112;have HR112_0 := Aside0.mk hi112_0;have HC112_0 := Aside0.mk hl112_0;clear hi112_0 hl112_0;replace p112 := eq_true p112;replace q112 := eq_true q112
      go_wp2
      go_loopg [8, 23] k1 (fun kq v8 v23 w' => ∃ (x8_2 : Int) (x23_2 : Int) (x109002_2 : List Int) (u109002 : Value), v8 = .int .i64 x8_2 ∧ v23 = .int .i64 x23_2 ∧ Aside0 (spec_tiTilt.l1 kq (rd_Lii t109 x17_1) x8_2 t109 (t109.length : Int) x17_1 (rd_Lii t109 x17_1) ((rd_Lii t109 x17_1).length : Int) x23_2 a0_0 a0_1 l0_2 t103 t104 x109002_2 = some (r1, r2, r3)) ∧ Aside0 (kq ≤ k1) ∧ Aside0 (Kd.N (Kd.slice 3 (Kd.int .i64)) 39 w' w.heap.size (fun k_ => some k_ ≠ (u109002 : Value).ownBlock ∧ k_ ≠ gb101 ∧ k_ ≠ gb102 ∧ k_ ≠ gb108) (.slice (some ad112) t109.length co17) t109) ∧ Aside0 (Kd.R (Kd.int .u8) 5 w' w.heap.size (fun _ => True) u109002 x109002_2) ∧ Aside0 (w'.heap[gb101]? = some (.cells #[.int .i64 a0_0, .int .i64 a0_1, (.slice A0_2 l0_2.length c0_2)] 38 (0, 0))) ∧ Aside0 (w'.heap[gb102]? = some (.cells #[.int .i64 0, .int .i64 0, (.slice none 0 0)] 38 (0, 0))) ∧ Aside0 (w'.heap[gb108]? = some (.cells #[.int .i64 t103, .int .i64 t104, u109002] 38 (0, 0))) ∧ Aside0 (Kd.V (Kd.int .i64) 3 w' w.heap.size (fun k_ => some k_ ≠ (u109002 : Value).ownBlock ∧ some k_ ≠ ((.slice (some ad112) t109.length co17) : Value).ownBlock ∧ k_ ≠ gb101 ∧ k_ ≠ gb102 ∧ k_ ≠ gb108) (.slice A112_0 (rd_Lii t109 x17_1).length c112_0) (rd_Lii t109 x17_1)) ∧ Aside0 (Below w.heap.size w w'))
      case atStart => exact ⟨(0), (0), (x109002_1), (u109002), (by first | rfl | (simp; done) | (simp [*]; done)), (by first | rfl | (simp; done) | (simp [*]; done)), H', ⟨Nat.le_refl _⟩, ⟨by (with_reducible repeat (first | apply Kd.N_alloc | apply Kd.N_drewN | apply Kd.N_drew)); (first | exact HO_15.out | exact R_any HO_15.out)⟩, ⟨rch HO_109002⟩, ⟨blc⟩, ⟨blc⟩, ⟨blc⟩, ⟨by (with_reducible repeat (first | apply Kd.V_alloc | apply Kd.V_drewN | apply Kd.V_drew)); exact Kd.V_mono HL112_0.out (fun _ hk => ⟨hk.1.1, ⟨hk.2, ⟨hk.1.2.1, ⟨hk.1.2.2.1, hk.1.2.2.2⟩⟩⟩⟩)⟩, ⟨bel HB⟩⟩
      case round =>
       clear H'
       try clear c1
       try clear p1
       try clear q1
       try clear hx1
       try clear c2
       try clear p2
       try clear c4
       try clear c7
       try clear c11
       try clear p11
       try clear q11
       try clear hx11
       try clear c12
       try clear c18
       try clear c18b0
       try clear c18b0y
       try clear c19
       try clear c19b0
       try clear c19b0y
       try clear c20
       try clear c20b0
       try clear c20b0y
       try clear hcz13_0
       try clear hcz13_1
       try clear hcz13_2
       try clear hcz15_0
       try clear hcz15_1
       try clear hcz15_2
       try clear hcz8_0
       try clear hcz8_1
       try clear hcz8_2
       try clear hfz13_0
       try clear hfz13_1
       try clear hfz13_2
       try clear hfz15_0
       try clear hfz15_1
       try clear hfz15_2
       try clear hfz8_0
       try clear hfz8_1
       try clear hfz8_2
       try clear hx112_0
       try clear p112
       try clear p2
       try clear q112
       obtain ⟨x8_2, x23_2, x109002_2, u109002, rfl, rfl, HA, HK2, HO_15, HO_109002, BK101, BK102, BK108, HL112_0, HB⟩ := hrel;have HR112_0 := Aside0.mk (Kd.V_reads' HL112_0.out).2.2
       cases gk with
       | zero => exact absurd HA.out (by simp [spec_tiTilt.l1])
       | succ k2 =>
        have H := HA.out;clear HA
        simp only [spec_tiTilt.l1] at H
        by_cases c21 : x23_2 < ((rd_Lii t109 x17_1).length : Int)
        ·rw [if_pos c21] at H
         have c21b0 : decide (x23_2 < ((rd_Lii t109 x17_1).length : Int)) = true := decide_eq_true c21;clear c21
         by_cases c22 : 0 ≤ x23_2
         ·rw [if_pos c22] at H
          have c22b0 : decide (0 ≤ x23_2) = true := decide_eq_true c22;clear c22
          by_cases c23 : x23_2 < ((rd_Lii t109 x17_1).length : Int)
          ·rw [if_pos c23] at H
           have c23b0 : decide (x23_2 < ((rd_Lii t109 x17_1).length : Int)) = true := decide_eq_true c23;clear c23
           by_cases c24 : 0 ≤ (rd (rd_Lii t109 x17_1) x23_2)
           ·rw [if_pos c24] at H
            have c24b0 : decide (0 ≤ (rd (rd_Lii t109 x17_1) x23_2)) = true := decide_eq_true c24;clear c24
            by_cases c25 : (rd (rd_Lii t109 x17_1) x23_2) < (l0_2.length : Int)
            ·rw [if_pos c25] at H
             have c25b0 : decide ((rd (rd_Lii t109 x17_1) x23_2) < (l0_2.length : Int)) = true := decide_eq_true c25;clear c25;replace H := Option.bind_eq_some_iff.mp H;obtain ⟨t115, A260, H⟩ := H;replace H : (if t115 = true then (if 0 ≤ x8_2 then (if x8_2 < ((rd_Lii t109 x17_1).length : Int) then (if 0 ≤ (rd (rd_Lii t109 x17_1) x8_2) then (if (rd (rd_Lii t109 x17_1) x8_2) < (x109002_2.length : Int) then (spec_tiTilt.l1 k2 (rd_Lii t109 x17_1) (wrap64 (x8_2 + 1)) t109 (t109.length : Int) x17_1 (rd_Lii t109 x17_1) ((rd_Lii t109 x17_1).length : Int) (wrap64 (x23_2 + 1)) a0_0 a0_1 l0_2 t103 t104 (x109002_2.set ((rd (rd_Lii t109 x17_1) x8_2) : Int).toNat (rd l0_2 (rd (rd_Lii t109 x17_1) x23_2)))) else (none)) else (none)) else (none)) else (none)) else (spec_tiTilt.l1 k2 (rd_Lii t109 x17_1) x8_2 t109 (t109.length : Int) x17_1 (rd_Lii t109 x17_1) ((rd_Lii t109 x17_1).length : Int) (wrap64 (x23_2 + 1)) a0_0 a0_1 l0_2 t103 t104 x109002_2)) = some (r1, r2, r3) := H;have A26 := Aside0.mk A260;clear A260
             by_cases c27 : t115 = true
             ·subst c27
              have H1 : (if 0 ≤ x8_2 then (if x8_2 < ((rd_Lii t109 x17_1).length : Int) then (if 0 ≤ (rd (rd_Lii t109 x17_1) x8_2) then (if (rd (rd_Lii t109 x17_1) x8_2) < (x109002_2.length : Int) then (spec_tiTilt.l1 k2 (rd_Lii t109 x17_1) (wrap64 (x8_2 + 1)) t109 (t109.length : Int) x17_1 (rd_Lii t109 x17_1) ((rd_Lii t109 x17_1).length : Int) (wrap64 (x23_2 + 1)) a0_0 a0_1 l0_2 t103 t104 (x109002_2.set ((rd (rd_Lii t109 x17_1) x8_2) : Int).toNat (rd l0_2 (rd (rd_Lii t109 x17_1) x23_2)))) else (none)) else (none)) else (none)) else (none)) = some (r1, r2, r3) := by rw [if_pos rfl] at H; exact H
              clear H;have H := H1;clear H1
              by_cases c28 : 0 ≤ x8_2
              ·rw [if_pos c28] at H
               have c28b0 : decide (0 ≤ x8_2) = true := decide_eq_true c28;clear c28
               by_cases c29 : x8_2 < ((rd_Lii t109 x17_1).length : Int)
               ·rw [if_pos c29] at H
                have c29b0 : decide (x8_2 < ((rd_Lii t109 x17_1).length : Int)) = true := decide_eq_true c29;clear c29
                by_cases c30 : 0 ≤ (rd (rd_Lii t109 x17_1) x8_2)
                ·rw [if_pos c30] at H
                 have c30b0 : decide (0 ≤ (rd (rd_Lii t109 x17_1) x8_2)) = true := decide_eq_true c30;clear c30
                 by_cases c31 : (rd (rd_Lii t109 x17_1) x8_2) < (x109002_2.length : Int)
                 ·rw [if_pos c31] at H
                  have c31b0 : decide ((rd (rd_Lii t109 x17_1) x8_2) < (x109002_2.length : Int)) = true := decide_eq_true c31;clear c31;obtain ⟨y118, hy118⟩ : ∃ y_ : List Int, y_ = (x109002_2.set ((rd (rd_Lii t109 x17_1) x8_2) : Int).toNat (rd l0_2 (rd (rd_Lii t109 x17_1) x23_2))) := ⟨_, rfl⟩;replace H : (spec_tiTilt.l1 k2 (rd_Lii t109 x17_1) (wrap64 (x8_2 + 1)) t109 (t109.length : Int) x17_1 (rd_Lii t109 x17_1) ((rd_Lii t109 x17_1).length : Int) (wrap64 (x23_2 + 1)) a0_0 a0_1 l0_2 t103 t104 y118) = some (r1, r2, r3) := rH hy118 H;have Ny118 := Aside0.mk hy118;clear hy118;have H' := Aside0.mk H;clear H;have p113 : 0 ≤ (x23_2 : Int) := of_decide_eq_true (by first | (with_reducible assumption) | assumption);have q113 : x23_2 < ((rd_Lii t109 x17_1).length : Int) := of_decide_eq_true (by first | (with_reducible assumption) | assumption);obtain ⟨ad113, e113, hx113_0⟩ := Kd.at_int HR112_0.out x23_2 p113 q113
                  cases e113
                  (try replace hx113_0 := (HB.out.cell (World.block_lt_of_cell? w _ hx113_0)).trans hx113_0)
                  replace p113 := eq_true p113;replace q113 := eq_true q113;have hnb33 := NB101_102.out;have hnc33 := NB102_101.out;have hnb34 := NB101_108.out;have hnc34 := NB108_101.out;have hcz35_0 : wr.cell? ⟨gb101, 0, none⟩ = some (.int .i64 a0_0) := (blk_cell BK101.out 0).trans rfl;have hcz35_1 : wr.cell? ⟨gb101, 1, none⟩ = some (.int .i64 a0_1) := (blk_cell BK101.out 1).trans rfl;have hcz35_2 : wr.cell? ⟨gb101, 2, none⟩ = some (.slice A0_2 l0_2.length c0_2) := (blk_cell BK101.out 2).trans rfl;have hfz35_0 := blk_frozen BK101.out 0;have hfz35_1 := blk_frozen BK101.out 1;have hfz35_2 := blk_frozen BK101.out 2;have p114 : 0 ≤ ((rd (rd_Lii t109 x17_1) x23_2) : Int) := of_decide_eq_true (by first | (with_reducible assumption) | assumption);have q114 : (rd (rd_Lii t109 x17_1) x23_2) < (l0_2.length : Int) := of_decide_eq_true (by first | (with_reducible assumption) | assumption);obtain ⟨ad114, e114, hx114_0⟩ := Kd.at_int HR0_2.out (rd (rd_Lii t109 x17_1) x23_2) p114 q114
                  cases e114
                  (try replace hx114_0 := (HB.out.cell (World.block_lt_of_cell? w _ hx114_0)).trans hx114_0)
                  replace p114 := eq_true p114;replace q114 := eq_true q114
                  try go_wp2_with (first | ((with_reducible refine gate_callee (f := 69) rfl ?_); refine gcall (some 32) Tryz.func69 #[.int .u8 (rd l0_2 (rd (rd_Lii t109 x17_1) x23_2))] rfl ?_; (with_reducible refine (spec_tyBall.calls (rd l0_2 (rd (rd_Lii t109 x17_1) x23_2)) true _ A26.out).mono ?_); rintro e w' ⟨rfl, ⟨nd, rfl⟩⟩; refine ⟨_, rfl, ?_⟩; (try (rw [drewN_self wr]; generalize hq_ : World.drewN wr _ = wr; have n0_ : Aside0 (Kd.V (Kd.int .i64) 3 wr w.heap.size (fun k_ => some k_ ≠ (u109002 : Value).ownBlock ∧ some k_ ≠ (.slice (some ad112) t109.length co17 : Value).ownBlock ∧ k_ ≠ gb101 ∧ k_ ≠ gb102 ∧ k_ ≠ gb108) (.slice (some ad113) (rd_Lii t109 x17_1).length c112_0) (rd_Lii t109 x17_1)) := ⟨by rw [← hq_]; exact (by (with_reducible repeat (first | apply Kd.V_alloc | apply Kd.V_drewN | apply Kd.V_drew)); exact HL112_0.out)⟩; have n1_ : Aside0 (Kd.R (Kd.int .u8) 5 wr w.heap.size (fun _ => True) u109002 x109002_2) := ⟨by rw [← hq_]; exact (rch HO_109002)⟩; have n2_ : Aside0 (Kd.N (Kd.slice 3 (Kd.int .i64)) 39 wr w.heap.size (fun k_ => some k_ ≠ (u109002 : Value).ownBlock ∧ k_ ≠ gb101 ∧ k_ ≠ gb102 ∧ k_ ≠ gb108) (.slice (some ad112) t109.length co17) t109) := ⟨by rw [← hq_]; exact (by (with_reducible repeat (first | apply Kd.N_alloc | apply Kd.N_drewN | apply Kd.N_drew)); (first | exact HO_15.out | exact R_any HO_15.out))⟩; have n3_ : Aside0 (wr.heap[gb101]? = some (.cells #[.int .i64 a0_0, .int .i64 a0_1, .slice (some ad114) l0_2.length c0_2] 38 (0, 0))) := ⟨by rw [← hq_]; exact blc⟩; have n4_ : Aside0 (wr.heap[gb102]? = some (.cells #[.int .i64 0, .int .i64 0, .slice none 0 0] 38 (0, 0))) := ⟨by rw [← hq_]; exact blc⟩; have n5_ : Aside0 (wr.heap[gb108]? = some (.cells #[.int .i64 t103, .int .i64 t104, u109002] 38 (0, 0))) := ⟨by rw [← hq_]; exact blc⟩; have n6_ : Aside0 (Below w.heap.size w wr) := ⟨by rw [← hq_]; exact (bel HB)⟩; have n7_ : Aside0 (Kd.C (Kd.int .i64) wr (some ad113) (rd_Lii t109 x17_1).length (rd_Lii t109 x17_1)) := ⟨by rw [← hq_]; exact (by repeat (first | (with_reducible exact HR112_0.out) | (with_reducible refine Kd.C_alloc ?_ _) | (with_reducible refine Kd.C_drewN ?_ _) | (with_reducible refine Kd.C_drew ?_) | exact HR112_0.out))⟩; clear HL112_0 HO_109002 HO_15 BK101 BK102 BK108 HB HR112_0 hq_; have HL112_0 := n0_; have HO_109002 := n1_; have HO_15 := n2_; have BK101 := n3_; have BK102 := n4_; have BK108 := n5_; have HB := n6_; have HR112_0 := n7_; clear n0_ n1_ n2_ n3_ n4_ n5_ n6_ n7_))))
                  have n0_ := Aside0.mk (Kd.N_drew HO_15.out);have n1_ := Aside0.mk (Kd.R_drew HO_109002.out);have n2_ := Aside0.mk (Kd.V_drew HL112_0.out);have n3_ := Aside0.mk (blk_drew BK101.out);have n4_ := Aside0.mk (blk_drew BK102.out);have n5_ := Aside0.mk (blk_drew BK108.out);have n6_ := Aside0.mk (Kd.C_drew HR112_0.out);have n7_ := Aside0.mk (below_drew1 HB.out);clear HO_15;clear HO_109002;clear HL112_0;clear BK101;clear BK102;clear BK108;clear HR112_0;clear HB;have HO_15 := n0_;have HO_109002 := n1_;have HL112_0 := n2_;have BK101 := n3_;have BK102 := n4_;have BK108 := n5_;have HR112_0 := n6_;have HB := n7_;clear n0_ n1_ n2_ n3_ n4_ n5_ n6_ n7_;have p116 : 0 ≤ (x8_2 : Int) := of_decide_eq_true (by first | (with_reducible assumption) | assumption);have q116 : x8_2 < ((rd_Lii t109 x17_1).length : Int) := of_decide_eq_true (by first | (with_reducible assumption) | assumption);obtain ⟨ad116, e116, hx116_0⟩ := Kd.at_int (by repeat (first | (with_reducible exact HR112_0.out) | (with_reducible refine Kd.C_alloc ?_ _) | (with_reducible refine Kd.C_drewN ?_ _) | (with_reducible refine Kd.C_drew ?_) | exact HR112_0.out)) x8_2 p116 q116;obtain rfl : ad113 = ad116 := (by injection e116);replace p116 := eq_true p116;replace q116 := eq_true q116;have p117 : 0 ≤ ((rd (rd_Lii t109 x17_1) x23_2) : Int) := of_decide_eq_true (by first | (with_reducible assumption) | assumption);have q117 : (rd (rd_Lii t109 x17_1) x23_2) < (l0_2.length : Int) := of_decide_eq_true (by first | (with_reducible assumption) | assumption);obtain ⟨ad117, e117, hx117_0⟩ := Kd.at_int HR0_2.out (rd (rd_Lii t109 x17_1) x23_2) p117 q117;have hw117_0 := hx117_0;obtain rfl : ad114 = ad117 := (by injection e117)
                  (try replace hx117_0 := (HB.out.cell (World.block_lt_of_cell? w _ hx117_0)).trans hx117_0)
                  replace p117 := eq_true p117;replace q117 := eq_true q117;have p32 : 0 ≤ ((rd (rd_Lii t109 x17_1) x8_2) : Int) := of_decide_eq_true (by first | (with_reducible assumption) | assumption);have q32 : ((rd (rd_Lii t109 x17_1) x8_2) : Int) < ((x109002_2.length : Int) : Int) := of_decide_eq_true (by first | (with_reducible assumption) | assumption);obtain ⟨go32, co32, eo32, gb32, gl32, cl32, HG32⟩ := Kd.R_form HO_109002.out (by omega)
                  (first | cases eo32 | (injection eo32 with ea_ en_ ec_; (first | subst ea_ | (injection ea_ with ea_; subst ea_)); subst ec_; clear en_))
                  have GB32 := Aside0.mk gb32;have GG32 := Aside0.mk HG32;clear gb32 gl32 HG32;obtain ⟨hx32_0, hf32_0⟩ := Kd.R_celln 0 HO_109002.out ((rd (rd_Lii t109 x17_1) x8_2) : Int) p32 q32;replace p32 := eq_true p32;replace q32 := eq_true q32;have HP37 := Kd.R_putn HO_109002.out ((rd (rd_Lii t109 x17_1) x8_2) : Int) (rd l0_2 (rd (rd_Lii t109 x17_1) x23_2))
                  rw [← Ny118.out] at HP37
                  have HQ37 := Aside0.mk HP37;clear HP37
                  refine start_ (n := 13) (S := fun w' => w'.cell? ⟨gb108, 0, none⟩ = some (.int .i64 t103) ∧ w'.cell? ⟨gb108, 1, none⟩ = some (.int .i64 t104) ∧ w'.cell? ⟨gb108, 2, none⟩ = some (.slice (some ⟨go32, 0, none⟩) x109002_2.length co32) ∧ w'.cell? ⟨gb101, 0, none⟩ = some (.int .i64 a0_0) ∧ w'.cell? ⟨gb101, 1, none⟩ = some (.int .i64 a0_1) ∧ w'.cell? ⟨gb101, 2, none⟩ = some (.slice (some ad114) l0_2.length c0_2) ∧ w'.cell? (ad113.add (x8_2).toNat) = some (.int .i64 (rd (rd_Lii t109 x17_1) x8_2)) ∧ w'.cell? (ad114.add ((rd (rd_Lii t109 x17_1) x23_2)).toNat) = some (.int .u8 (rd l0_2 (rd (rd_Lii t109 x17_1) x23_2)))) (ds := [12]) #[false, false, false, false, false, false, false, false, false, false, false, false, false] (by kernel_rfl) rfl rfl ⟨(blk_cell BK108.out 0).trans rfl, (blk_cell BK108.out 1).trans rfl, (blk_cell BK108.out 2).trans rfl, (blk_cell BK101.out 0).trans rfl, (blk_cell BK101.out 1).trans rfl, (blk_cell BK101.out 2).trans rfl, hx116_0, ((HB.out.cell (World.block_lt_of_cell? w _ hw117_0)).trans hw117_0)⟩ (fun hHeld => ?_); refine with_tabW spec_tiTilt.tab10 spec_tiTilt.bits10 (fun HT_ HW_ => ?_)
                  generalize wr.drew = w36 at HO_15 HO_109002 HL112_0 BK101 BK102 BK108 HR112_0 HB GG32 HQ37 hf32_0 hx116_0 hx117_0 hx32_0 hHeld ⊢
                  refine pure_ (i := 0) (N := some 33) (v := ?_) (a' := ?_) #[true, false, false, false, false, false, false, false, false, false, false, false, false] rfl rfl (any_of HT_.out (by kernel_rfl)) (fun _ _ _ h => h) (Or.inl ⟨by rfl, ?_⟩) ?_ ?_
                  rotate_left
                  ·intro w'
                   go_simp
                   with_reducible rfl
                  rotate_left
                  ·simp only [Act.put, List.setIfInBounds_toArray, List.set_cons_zero, List.set_cons_succ, i64_w, i32_w]
                   rfl
                  refine pure_ (i := 2) (N := some 35) (v := ?_) (a' := ?_) #[true, false, true, false, false, false, false, false, false, false, false, false, false] rfl rfl (any_of HT_.out (by kernel_rfl)) (fun _ _ _ h => h) (Or.inl ⟨by rfl, ?_⟩) ?_ ?_
                  rotate_left
                  ·intro w'
                   go_simp
                   with_reducible rfl
                  rotate_left
                  ·simp only [Act.put, List.setIfInBounds_toArray, List.set_cons_zero, List.set_cons_succ, i64_w, i32_w]
                   rfl
                  refine pure_ (i := 3) (N := some 36) (v := ?_) (a' := ?_) #[true, false, true, true, false, false, false, false, false, false, false, false, false] rfl rfl (any_of HT_.out (by kernel_rfl)) (fun _ _ _ h => h) (Or.inl ⟨by rfl, ?_⟩) ?_ ?_
                  rotate_left
                  ·intro w'
                   go_simp
                   with_reducible rfl
                  rotate_left
                  ·simp only [Act.put, List.setIfInBounds_toArray, List.set_cons_zero, List.set_cons_succ, i64_w, i32_w]
                   rfl
                  refine pure_ (i := 4) (N := some 37) (v := ?_) (a' := ?_) #[true, false, true, true, true, false, false, false, false, false, false, false, false] rfl rfl (any_of HT_.out (by kernel_rfl)) (fun _ _ _ h => h) (Or.inl ⟨by rfl, ?_⟩) ?_ ?_
                  rotate_left
                  ·intro w'
                   go_simp
                   with_reducible rfl
                  rotate_left
                  ·simp only [Act.put, List.setIfInBounds_toArray, List.set_cons_zero, List.set_cons_succ, i64_w, i32_w]
                   rfl
                  refine pure_ (i := 6) (N := some 39) (v := ?_) (a' := ?_) #[true, false, true, true, true, false, true, false, false, false, false, false, false] rfl rfl (any_of HT_.out (by kernel_rfl)) (fun _ _ _ h => h) (Or.inl ⟨by rfl, ?_⟩) ?_ ?_
                  rotate_left
                  ·intro w'
                   go_simp
                   with_reducible rfl
                  rotate_left
                  ·simp only [Act.put, List.setIfInBounds_toArray, List.set_cons_zero, List.set_cons_succ, i64_w, i32_w]
                   rfl
                  refine pure_ (i := 8) (N := some 41) (v := ?_) (a' := ?_) #[true, false, true, true, true, false, true, false, true, false, false, false, false] rfl rfl (any_of HT_.out (by kernel_rfl)) (fun _ _ _ h => h) (Or.inl ⟨by rfl, ?_⟩) ?_ ?_
                  rotate_left
                  ·intro w'
                   go_simp
                   with_reducible rfl
                  rotate_left
                  ·simp only [Act.put, List.setIfInBounds_toArray, List.set_cons_zero, List.set_cons_succ, i64_w, i32_w]
                   rfl
                  refine take_ (i := 1) (N := some 34) (v := ?_) (a' := ?_) #[true, true, true, true, true, false, true, false, true, false, false, false, false] rfl rfl (take_ofW HT_.out HW_.out (by kernel_rfl)) (fun _ _ _ h => h) (Or.inl ⟨by rfl, ?_⟩) hHeld ?_ ?_
                  rotate_left
                  ·rintro w' ⟨s0, s1, s2, s3, s4, s5, s6, s7⟩
                   go_simp
                   with_reducible rfl
                  rotate_left
                  ·simp only [Act.put, List.setIfInBounds_toArray, List.set_cons_zero, List.set_cons_succ, i64_w, i32_w]
                   rfl
                  refine take_ (i := 5) (N := some 38) (v := ?_) (a' := ?_) #[true, true, true, true, true, true, true, false, true, false, false, false, false] rfl rfl (take_ofW HT_.out HW_.out (by kernel_rfl)) (fun _ _ _ h => h) (Or.inl ⟨by rfl, ?_⟩) hHeld ?_ ?_
                  rotate_left
                  ·rintro w' ⟨s0, s1, s2, s3, s4, s5, s6, s7⟩
                   go_simp
                   with_reducible rfl
                  rotate_left
                  ·simp only [Act.put, List.setIfInBounds_toArray, List.set_cons_zero, List.set_cons_succ, i64_w, i32_w]
                   rfl
                  refine take_ (i := 7) (N := some 40) (v := ?_) (a' := ?_) #[true, true, true, true, true, true, true, true, true, false, false, false, false] rfl rfl (take_ofW HT_.out HW_.out (by kernel_rfl)) (fun _ _ _ h => h) (Or.inl ⟨by rfl, ?_⟩) hHeld ?_ ?_
                  rotate_left
                  ·rintro w' ⟨s0, s1, s2, s3, s4, s5, s6, s7⟩
                   go_simp
                   with_reducible rfl
                  rotate_left
                  ·simp only [Act.put, List.setIfInBounds_toArray, List.set_cons_zero, List.set_cons_succ, i64_w, i32_w]
                   rfl
                  refine pure_ (i := 9) (N := some 42) (v := ?_) (a' := ?_) #[true, true, true, true, true, true, true, true, true, true, false, false, false] rfl rfl (any_of HT_.out (by kernel_rfl)) (fun _ _ _ h => h) (Or.inl ⟨by rfl, ?_⟩) ?_ ?_
                  rotate_left
                  ·intro w'
                   go_simp
                   with_reducible rfl
                  rotate_left
                  ·simp only [Act.put, List.setIfInBounds_toArray, List.set_cons_zero, List.set_cons_succ, i64_w, i32_w]
                   rfl
                  refine take_ (i := 10) (N := some 43) (v := ?_) (a' := ?_) #[true, true, true, true, true, true, true, true, true, true, true, false, false] rfl rfl (take_ofW HT_.out HW_.out (by kernel_rfl)) (fun _ _ _ h => h) (Or.inl ⟨by rfl, ?_⟩) hHeld ?_ ?_
                  rotate_left
                  ·rintro w' ⟨s0, s1, s2, s3, s4, s5, s6, s7⟩
                   go_simp
                   with_reducible rfl
                  rotate_left
                  ·simp only [Act.put, List.setIfInBounds_toArray, List.set_cons_zero, List.set_cons_succ, i64_w, i32_w]
                   rfl
                  refine pure_ (i := 11) (N := some 44) (v := ?_) (a' := ?_) #[true, true, true, true, true, true, true, true, true, true, true, true, false] rfl rfl (any_of HT_.out (by kernel_rfl)) (fun _ _ _ h => h) (Or.inl ⟨by rfl, ?_⟩) ?_ ?_
                  rotate_left
                  ·intro w'
                   go_simp
                   with_reducible rfl
                  rotate_left
                  ·simp only [Act.put, List.setIfInBounds_toArray, List.set_cons_zero, List.set_cons_succ, i64_w, i32_w]
                   rfl
                  refine last_ (i := 12) (N := none) #[true, true, true, true, true, true, true, true, true, true, true, true, true] rfl rfl (one_of HT_.out (by kernel_rfl)) (by decide) (fun K hK => ?_)
                  refine skip_ (w1 := ?_) (by rfl) rfl ?_ ?_
                  rotate_left
                  ·go_simp
                   rfl
                  refine hK.out _ _ ?_
                  clear hK K
                  refine done_ (done_of HT_.out (by kernel_rfl)) ?_
                  try go_wp2
                  go_roundg k2
                  case measure => have := HK1.out; have := HK2.out; omega
                  case rel => exact ⟨(wrap64 (x8_2 + 1)), (wrap64 (x23_2 + 1)), (y118), (.slice (some ⟨go32, 0, none⟩) x109002_2.length co32), (by first | rfl | (simp; done) | (simp [*]; done)), (by first | rfl | (simp; done) | (simp [*]; done)), H', ⟨by have := HK1.out; have := HK2.out; omega⟩, ⟨by (with_reducible repeat (first | apply Kd.N_alloc | apply Kd.N_drewN | apply Kd.N_drew)); exact Kd.N_mono (Kd.N_far (p := ⟨go32, ((rd (rd_Lii t109 x17_1) x8_2) : Int).toNat, none⟩) (Kd.N_mono HO_15.out (fun k_ hk => (⟨hk, fun e_ => hk.1 (by rw [e_]; rfl)⟩ : _ ∧ k_ ≠ go32))) (fun _ hk => hk.2) (.int .u8 (rd l0_2 (rd (rd_Lii t109 x17_1) x23_2)))) (fun _ hk => ⟨hk.1.1, ⟨hk.1.2.1, ⟨hk.1.2.2.1, hk.1.2.2.2⟩⟩⟩)⟩, ⟨by (with_reducible repeat (first | apply Kd.R_alloc | apply Kd.R_drewN | apply Kd.R_drew)); exact HQ37.out⟩, ⟨by (with_reducible repeat (first | refine blk_drewN ?_ _ | refine blk_drew ?_ | refine blk_alloc ?_ _)); refine blk_far ?_ (by have h_ := Kd.R_ne HO_109002.out BK101.out (by decide); intro e_; exact h_ (by rw [e_]; rfl)) _; exact blc⟩, ⟨by (with_reducible repeat (first | refine blk_drewN ?_ _ | refine blk_drew ?_ | refine blk_alloc ?_ _)); refine blk_far ?_ (by have h_ := Kd.R_ne HO_109002.out BK102.out (by decide); intro e_; exact h_ (by rw [e_]; rfl)) _; exact blc⟩, ⟨by (with_reducible repeat (first | refine blk_drewN ?_ _ | refine blk_drew ?_ | refine blk_alloc ?_ _)); refine blk_far ?_ (by have h_ := Kd.R_ne HO_109002.out BK108.out (by decide); intro e_; exact h_ (by rw [e_]; rfl)) _; exact blc⟩, ⟨by (with_reducible repeat (first | apply Kd.V_alloc | apply Kd.V_drewN | apply Kd.V_drew)); exact Kd.V_mono (Kd.V_far (p := ⟨go32, ((rd (rd_Lii t109 x17_1) x8_2) : Int).toNat, none⟩) (Kd.V_mono HL112_0.out (fun k_ hk => (⟨hk, fun e_ => hk.1 (by rw [e_]; rfl)⟩ : _ ∧ k_ ≠ go32))) (fun _ hk => hk.2) (.int .u8 (rd l0_2 (rd (rd_Lii t109 x17_1) x23_2)))) (fun _ hk => ⟨hk.1.1, ⟨hk.1.2.1, ⟨hk.1.2.2.1, ⟨hk.1.2.2.2.1, hk.1.2.2.2.2⟩⟩⟩⟩)⟩, ⟨bel HB⟩⟩
                 ·rw [if_neg c31] at H
                  exact absurd H (by simp)
                ·rw [if_neg c30] at H
                 exact absurd H (by simp)
               ·rw [if_neg c29] at H
                exact absurd H (by simp)
              ·rw [if_neg c28] at H
               exact absurd H (by simp)
             ·replace c27 := Bool.eq_false_iff.mpr c27
              subst c27
              have H1 : (spec_tiTilt.l1 k2 (rd_Lii t109 x17_1) x8_2 t109 (t109.length : Int) x17_1 (rd_Lii t109 x17_1) ((rd_Lii t109 x17_1).length : Int) (wrap64 (x23_2 + 1)) a0_0 a0_1 l0_2 t103 t104 x109002_2) = some (r1, r2, r3) := by rw [if_neg (show ¬ (false = true) by decide)] at H; exact H
              clear H;have H := H1;clear H1;have H' := Aside0.mk H;clear H;have p113 : 0 ≤ (x23_2 : Int) := of_decide_eq_true (by first | (with_reducible assumption) | assumption);have q113 : x23_2 < ((rd_Lii t109 x17_1).length : Int) := of_decide_eq_true (by first | (with_reducible assumption) | assumption);obtain ⟨ad113, e113, hx113_0⟩ := Kd.at_int HR112_0.out x23_2 p113 q113
              cases e113
              (try replace hx113_0 := (HB.out.cell (World.block_lt_of_cell? w _ hx113_0)).trans hx113_0)
              replace p113 := eq_true p113;replace q113 := eq_true q113;have hnb38 := NB101_102.out;have hnc38 := NB102_101.out;have hnb39 := NB101_108.out;have hnc39 := NB108_101.out;have hcz40_0 : wr.cell? ⟨gb101, 0, none⟩ = some (.int .i64 a0_0) := (blk_cell BK101.out 0).trans rfl;have hcz40_1 : wr.cell? ⟨gb101, 1, none⟩ = some (.int .i64 a0_1) := (blk_cell BK101.out 1).trans rfl;have hcz40_2 : wr.cell? ⟨gb101, 2, none⟩ = some (.slice A0_2 l0_2.length c0_2) := (blk_cell BK101.out 2).trans rfl;have hfz40_0 := blk_frozen BK101.out 0;have hfz40_1 := blk_frozen BK101.out 1;have hfz40_2 := blk_frozen BK101.out 2;have p114 : 0 ≤ ((rd (rd_Lii t109 x17_1) x23_2) : Int) := of_decide_eq_true (by first | (with_reducible assumption) | assumption);have q114 : (rd (rd_Lii t109 x17_1) x23_2) < (l0_2.length : Int) := of_decide_eq_true (by first | (with_reducible assumption) | assumption);obtain ⟨ad114, e114, hx114_0⟩ := Kd.at_int HR0_2.out (rd (rd_Lii t109 x17_1) x23_2) p114 q114
              cases e114
              (try replace hx114_0 := (HB.out.cell (World.block_lt_of_cell? w _ hx114_0)).trans hx114_0)
              replace p114 := eq_true p114;replace q114 := eq_true q114
              go_wp2_with (first | ((with_reducible refine gate_callee (f := 69) rfl ?_); refine gcall (some 32) Tryz.func69 #[.int .u8 (rd l0_2 (rd (rd_Lii t109 x17_1) x23_2))] rfl ?_; (with_reducible refine (spec_tyBall.calls (rd l0_2 (rd (rd_Lii t109 x17_1) x23_2)) false _ A26.out).mono ?_); rintro e w' ⟨rfl, ⟨nd, rfl⟩⟩; refine ⟨_, rfl, ?_⟩))
              go_roundg k2
              case measure => have := HK1.out; have := HK2.out; omega
              case rel => exact ⟨(x8_2), (wrap64 (x23_2 + 1)), (x109002_2), (u109002), (by first | rfl | (simp; done) | (simp [*]; done)), (by first | rfl | (simp; done) | (simp [*]; done)), H', ⟨by have := HK1.out; have := HK2.out; omega⟩, ⟨by (with_reducible repeat (first | apply Kd.N_alloc | apply Kd.N_drewN | apply Kd.N_drew)); (first | exact HO_15.out | exact R_any HO_15.out)⟩, ⟨rch HO_109002⟩, ⟨blc⟩, ⟨blc⟩, ⟨blc⟩, ⟨by (with_reducible repeat (first | apply Kd.V_alloc | apply Kd.V_drewN | apply Kd.V_drew)); exact HL112_0.out⟩, ⟨bel HB⟩⟩
            ·rw [if_neg c25] at H
             exact absurd H (by simp)
           ·rw [if_neg c24] at H
            exact absurd H (by simp)
          ·rw [if_neg c23] at H
           exact absurd H (by simp)
         ·rw [if_neg c22] at H
          exact absurd H (by simp)
        ·rw [if_neg c21] at H
         have c21b0 : decide (x23_2 < ((rd_Lii t109 x17_1).length : Int)) = false := decide_eq_false c21;clear c21;have H' := Aside0.mk H;clear H
         go_wp2
         go_roundg k2
         case measure => have := HK1.out; have := HK2.out; omega
         case rel => exact ⟨(wrap64 (x17_1 + 1)), (x109002_2), (u109002), (by first | rfl | (simp; done) | (simp [*]; done)), H', ⟨by have := HK1.out; have := HK2.out; omega⟩, ⟨by (with_reducible repeat (first | apply Kd.N_alloc | apply Kd.N_drewN | apply Kd.N_drew)); (first | exact HO_15.out | exact R_any HO_15.out)⟩, ⟨rch HO_109002⟩, ⟨blc⟩, ⟨blc⟩, ⟨blc⟩, ⟨bel HB⟩⟩
     ·rw [if_neg c20] at H
      exact absurd H (by simp)
    ·rw [if_neg c19] at H
     exact absurd H (by simp)
   ·rw [if_neg c18] at H
    have c18b0 : decide (x17_1 < (t109.length : Int)) = false := decide_eq_false c18;clear c18
    simp only [Option.some.injEq, Prod.mk.injEq] at H
    obtain ⟨rfl, rfl, rfl⟩ := H;have hnb41 := NB108_101.out;have hnc41 := NB101_108.out;have hnb42 := NB108_102.out;have hnc42 := NB102_108.out;have hcz43_0 : wr.cell? ⟨gb108, 0, none⟩ = some (.int .i64 t103) := (blk_cell BK108.out 0).trans rfl;have hcz43_1 : wr.cell? ⟨gb108, 1, none⟩ = some (.int .i64 t104) := (blk_cell BK108.out 1).trans rfl;have hcz43_2 : wr.cell? ⟨gb108, 2, none⟩ = some (u109002) := (blk_cell BK108.out 2).trans rfl;have hfz43_0 := blk_frozen BK108.out 0;have hfz43_1 := blk_frozen BK108.out 1;have hfz43_2 := blk_frozen BK108.out 2;have hnb44 := NB102_101.out;have hnc44 := NB101_102.out;have hcz45_0 : wr.cell? ⟨gb102, 0, none⟩ = some (.int .i64 0) := (blk_cell BK102.out 0).trans rfl;have hcz45_1 : wr.cell? ⟨gb102, 1, none⟩ = some (.int .i64 0) := (blk_cell BK102.out 1).trans rfl;have hcz45_2 : wr.cell? ⟨gb102, 2, none⟩ = some (.slice none 0 0) := (blk_cell BK102.out 2).trans rfl;have hfz45_0 := blk_frozen BK102.out 0;have hfz45_1 := blk_frozen BK102.out 1;have hfz45_2 := blk_frozen BK102.out 2;obtain ⟨Ao46, co46, eo46⟩ := Kd.R_slice HO_109002.out;subst eo46
    go_wp2
    refine bodyPost_ret (results_cell_row rfl _ _ gb102 38 #[.int .i64 t103, .int .i64 t104, .slice Ao46 x109002_1.length co46] (0, 0) _ rfl (by (with_reducible repeat (first | refine blk_drewN ?_ _ | refine blk_drew ?_ | refine blk_alloc ?_ _)); refine blk_put (cs := #[.int .i64 t103, .int .i64 t104, .slice none 0 0]) ?_ 2 _ rfl; (with_reducible repeat (first | refine blk_drewN ?_ _ | refine blk_drew ?_ | refine blk_alloc ?_ _)); refine blk_put (cs := #[.int .i64 t103, .int .i64 0, .slice none 0 0]) ?_ 1 _ rfl; (with_reducible repeat (first | refine blk_drewN ?_ _ | refine blk_drew ?_ | refine blk_alloc ?_ _)); refine blk_put (cs := #[.int .i64 0, .int .i64 0, .slice none 0 0]) ?_ 0 _ rfl; exact blc) Tryz.underlying38 rfl (by kernel_rfl)) rfl ?_
    exact ⟨_, by first | rfl | (simp [errW_none, errW_some] <;> rfl) | (simp [*, errW_none, errW_some] <;> rfl), by (with_reducible repeat (first | apply Kd.R_alloc | apply Kd.R_drewN | apply Kd.R_drew)); exact Kd.R_mono (Kd.R_far (p := ⟨gb102, 2, none⟩) (Kd.R_far (p := ⟨gb102, 1, none⟩) (Kd.R_far (p := ⟨gb102, 0, none⟩) (Kd.R_types HO_109002.out BK102.out (by decide)) (fun _ hk => hk.2) (.int .i64 t103)) (fun _ hk => hk.2) (.int .i64 t104)) (fun _ hk => hk.2) (.slice Ao46 x109002_1.length co46)) (fun _ hk => trivial), bel HB⟩
end Go.Proofs.YtchjgphnglklcaaGreatDoor.Q
end
section
namespace Go.Proofs.YtchjgphnglklcaaGreatDoor.Q
open Go.RowKit Go.Shelf Go.Proofs.YtchjgphnglklcaaGreatDoorW.PrintWords Go.Proofs.YtchjgphnglklcaaGreatDoorW.PrintLast Go.Proofs.YtchjgphnglklcaaGreatDoorW.PrintMore
set_option linter.unusedSectionVars false
def pairsS (cs s : List Int) : List (Int × Int) := (s.filter (bI cs)).zip s
def pairsP (cs : List Int) (P : List (List Int)) : List (Int × Int) := P.flatMap (pairsS cs)
theorem slC_eq (cs own : List Int) (hc : cs.length ≤ 1000) (hown : ∀ x ∈ own, 0 ≤ x ∧ x ≤ 1000000) : ∀ (l : List Int) (nx : Nat) (m : List (Int × Int)), nx + (l.filter (bI cs)).length ≤ own.length → (∀ x ∈ l, 0 ≤ x ∧ x < (cs.length : Int)) → m.length + l.length ≤ 1000 →
  slC cs own l nx m = some (((l.filter (bI cs)).zip (own.drop nx)).reverse ++ m)
 | [], nx, m, _, _, _ => by
  unfold slC
  simp
 | x :: l, nx, m, hn, hx, hm => by
  obtain ⟨x0, x1⟩ := hx x List.mem_cons_self
  have hx' : ∀ y ∈ l, 0 ≤ y ∧ y < (cs.length : Int) := fun y hy => hx y (List.mem_cons_of_mem _ hy)
  simp only [List.length_cons] at hm
  unfold slC
  rw [if_pos ⟨x0, x1, by omega⟩, isBall_eq, Option.bind_some]
  by_cases hb : bI cs x = true
  ·rw [List.filter_cons_of_pos hb] at hn ⊢
   simp only [List.length_cons] at hn
   have hlt : nx < own.length := by omega
   have hg : own.getD nx 0 = own[nx] := by rw [List.getD_eq_getElem?_getD, List.getElem?_eq_getElem hlt]; rfl
   obtain ⟨o0, o1⟩ := hown _ (List.getElem_mem hlt)
   rw [if_pos (show isB (rd cs x) = true from hb), hg, if_pos ⟨hlt, o0, o1, by omega⟩, slC_eq cs own hc hown l (nx + 1) _ (by omega) hx' (by simp only [List.length_cons]; omega), List.drop_eq_getElem_cons hlt, List.zip_cons_cons, List.reverse_cons, List.append_assoc, List.singleton_append]
  ·rw [List.filter_cons_of_neg hb] at hn ⊢
   rw [if_neg (show ¬ isB (rd cs x) = true from hb)]
   exact slC_eq cs own hc hown l nx m hn hx' (by omega)
theorem pairsS_len (cs s : List Int) : (pairsS cs s).length ≤ s.length := by
 unfold pairsS
 rw [List.length_zip]
 omega
theorem slP_eq (cs : List Int) (hc : cs.length ≤ 1000) : ∀ (P : List (List Int)) (m : List (Int × Int)), (∀ s ∈ P, ∀ x ∈ s, 0 ≤ x ∧ x < (cs.length : Int)) → m.length + P.flatten.length ≤ 1000 → slP cs P m = some ((pairsP cs P).reverse ++ m)
 | [], m, _, _ => rfl
 | s :: P, m, hx, hl => by
  rw [List.flatten_cons, List.length_append] at hl
  have h1 := hx s List.mem_cons_self;have h2 := List.length_filter_le (bI cs) s;have h3 := pairsS_len cs s;unfold slP
  rw [if_pos (by omega), slC_eq cs s hc (fun x hxs => by have := h1 x hxs; omega) s 0 m (by omega) h1 (by omega), Option.bind_some, List.drop_zero]
  show slP cs P ((pairsS cs s).reverse ++ m) = _
  rw [slP_eq cs hc P _ (fun t ht => hx t (List.mem_cons_of_mem _ ht)) (by rw [List.length_append, List.length_reverse]; omega)]
  unfold pairsP
  rw [List.flatMap_cons, List.reverse_append, List.append_assoc]
theorem zip_snd : ∀ a b : List Int, ((a.zip b).map Prod.snd).Sublist b
 | [], b => by simp
 | a :: l, [] => by simp
 | a :: l, b :: m => by
  rw [List.zip_cons_cons, List.map_cons]
  exact (zip_snd l m).cons_cons b
theorem pairs_keys (cs : List Int) : ∀ P : List (List Int), (pairsP cs P).map Prod.fst = P.flatten.filter (bI cs)
 | [] => rfl
 | s :: P => by
  unfold pairsP
  rw [List.flatMap_cons, List.map_append, List.flatten_cons, List.filter_append]
  have h1 : (pairsS cs s).map Prod.fst = s.filter (bI cs) := List.map_fst_zip (List.length_filter_le _ _)
  rw [h1]
  congr 1
  exact pairs_keys cs P
theorem pairs_vals (cs : List Int) : ∀ P : List (List Int), ((pairsP cs P).map Prod.snd).Sublist P.flatten
 | [] => List.Sublist.refl _
 | s :: P => by
  unfold pairsP
  rw [List.flatMap_cons, List.map_append, List.flatten_cons]
  exact (zip_snd _ s).append (pairs_vals cs P)
theorem asF_of : ∀ l : List (Int × Int), (l.map Prod.fst).Nodup → ∀ p ∈ l, asF l p.1 = some p.2
 | [], _, _, hp => by cases hp
 | (k, v) :: l, hn, p, hp => by
  obtain ⟨h1, h2⟩ := List.nodup_cons.1 hn;unfold asF upd
  rcases List.mem_cons.1 hp with rfl | hp
  ·exact if_pos rfl
  ·rw [if_neg (show ¬ p.1 = k from fun e => h1 (by rw [← e]; exact List.mem_map.2 ⟨p, hp, rfl⟩))]
   exact asF_of l h2 p hp
theorem snd_one : ∀ l : List (Int × Int), (l.map Prod.snd).Nodup → ∀ p ∈ l, ∀ q ∈ l, p.2 = q.2 → p = q
 | [], _, _, hp, _, _, _ => by cases hp
 | a :: l, hn, p, hp, q, hq, e => by
  obtain ⟨h1, h2⟩ := List.nodup_cons.1 hn
  rcases List.mem_cons.1 hp with e1 | hp1
  ·rcases List.mem_cons.1 hq with e2 | hq1
   ·rw [e1, e2]
   ·exact absurd (show a.2 ∈ l.map Prod.snd from List.mem_map.2 ⟨q, hq1, by rw [← e, e1]⟩) h1
  ·rcases List.mem_cons.1 hq with e2 | hq1
   ·exact absurd (show a.2 ∈ l.map Prod.snd from List.mem_map.2 ⟨p, hp1, by rw [e, e2]⟩) h1
   ·exact snd_one l h2 p hp1 q hq1 e
def setsL (cs : List Int) (Q : List (Int × Int)) (out : List Int) : List Int := Q.foldl (fun o p => o.set p.2.toNat (rd cs p.1)) out
theorem setsL_len (cs : List Int) : ∀ (Q : List (Int × Int)) (out : List Int), (setsL cs Q out).length = out.length
 | [], _ => rfl
 | p :: Q, out => by
  show (setsL cs Q (out.set p.2.toNat (rd cs p.1))).length = _
  rw [setsL_len, List.length_set]
theorem sets_laid (cs em : List Int) (f : Int → Option Int) (hf : Fits f cs.length) : ∀ (Q : List (Int × Int)) (ca : Int → Bool), (∀ p ∈ Q, f p.1 = some p.2) → setsL cs Q (laidCells cs em f ca) = laidCells cs em f fun y => ca y || decide (y ∈ Q.map Prod.fst)
 | [], ca, _ => by
  simp [setsL]
 | p :: Q, ca, h => by
  have h1 := laid_step cs em f ca hf p.1 p.2 (h p List.mem_cons_self)
  show setsL cs Q ((laidCells cs em f ca).set p.2.toNat (rd cs p.1)) = _
  rw [← h1, sets_laid cs em f hf Q _ fun q hq => h q (List.mem_cons_of_mem _ hq)]
  congr 1
  funext y
  rw [List.map_cons, Bool.or_assoc]
  congr 1
  rw [Bool.eq_iff_iff]
  simp only [Bool.or_eq_true, decide_eq_true_eq, List.mem_cons]
section
variable {w h : Nat} {cs : List Int} (hw : w ≤ 7) (hh : h ≤ 7) (hs : w * h ≤ 36) {d : Nat} (hd : d < 4)
include hw hh hs hd
theorem str_flat : (strL w h cs d).flatten.Nodup := (List.mergeSort_perm (cutsL w h cs d) leM).flatten.nodup_iff.2 (cuts_nodup hw hh hs hd)
theorem str_in (hn : cs.length = w * h) : ∀ s ∈ strL w h cs d, s.length ≤ 1000 ∧ ∀ x ∈ s, 0 ≤ x ∧ x < (cs.length : Int) := fun s hm => by
 obtain ⟨h1, h2⟩ := cuts_in hw hh hs hd hn s ((List.mergeSort_perm (cutsL w h cs d) leM).subset hm)
 exact ⟨h1, fun x hx => by rw [hn]; exact h2 x hx⟩
theorem str_total (hn : cs.length = w * h) : (strL w h cs d).flatten.length ≤ w * h := nodup_len (w * h) _ (str_flat hw hh hs hd) fun x hx => by
 obtain ⟨s, h1, h2⟩ := List.mem_flatten.1 hx
 rw [← hn]
 exact (str_in hw hh hs hd hn s h1).2 x h2
theorem slide_ev (hw0 : 0 < w) (hh0 : 0 < h) (hn : cs.length = w * h) : Ev (fun k => impl_tray_slide.f k w h cs (dirC d)) (pairsP cs (strL w h cs d)).reverse := by
 have h1 := cuts_many hw hh hs hd (cs := cs)
 have h2 : (strL w h cs d).length = (cutsL w h cs d).length := by unfold strL; exact List.length_mergeSort _
 have h3 := str_total hw hh hs hd hn
 refine Ev.bind (f := fun _ P => if P.length ≤ 1000 then slP cs P [] else none) (stretches_ev hw hh hs hd hw0 hh0 hn) (Ev.const ?_)
 rw [if_pos (by omega), slP_eq cs (by omega) _ [] (fun s hm => (str_in hw hh hs hd hn s hm).2) (by simp only [List.length_nil]; omega), List.append_nil]
theorem slide_keys : (((pairsP cs (strL w h cs d)).reverse).map Prod.fst).Nodup := by
 rw [List.map_reverse, pairs_keys]
 exact (List.reverse_perm _).nodup_iff.2 ((str_flat hw hh hs hd).filter _)
theorem slide_vals : (((pairsP cs (strL w h cs d)).reverse).map Prod.snd).Nodup := by
 rw [List.map_reverse]
 exact (List.reverse_perm _).nodup_iff.2 ((str_flat hw hh hs hd).sublist (pairs_vals cs _))
theorem pair_in (hn : cs.length = w * h) : ∀ p ∈ pairsP cs (strL w h cs d), (0 ≤ p.1 ∧ p.1 < (cs.length : Int)) ∧ 0 ≤ p.2 ∧ p.2 < (cs.length : Int) := by
 intro p hp
 have hall : ∀ x ∈ (strL w h cs d).flatten, 0 ≤ x ∧ x < (cs.length : Int) := fun x hx => by
  obtain ⟨s, h1, h2⟩ := List.mem_flatten.1 hx
  exact (str_in hw hh hs hd hn s h1).2 x h2
 have h1 : p.1 ∈ (pairsP cs (strL w h cs d)).map Prod.fst := List.mem_map.2 ⟨p, hp, rfl⟩
 rw [pairs_keys] at h1
 exact ⟨hall _ (List.mem_filter.1 h1).1, hall _ ((pairs_vals cs _).subset (List.mem_map.2 ⟨p, hp, rfl⟩))⟩
theorem slide_fits (hn : cs.length = w * h) : fitsB (pairsP cs (strL w h cs d)).reverse cs.length = true := by
 have h1 := slide_vals hw hh hs hd (cs := cs);unfold fitsB
 rw [Bool.and_eq_true, List.all_eq_true, List.all_eq_true]
 refine ⟨fun p hp => ?_, fun p hp => List.all_eq_true.2 fun q hq => ?_⟩
 ·have := pair_in hw hh hs hd hn p (List.mem_reverse.1 hp)
  simp only [Bool.and_eq_true, decide_eq_true_eq]
  omega
 ·by_cases e : p.2 = q.2
  ·rw [snd_one _ h1 p hp q hq e]
   simp
  ·simp [e]
def tiltC (w h : Nat) (cs : List Int) (d : Nat) : List Int := laidCells cs (emptyC cs) (asF (pairsP cs (strL w h cs d)).reverse) fun _ => true
theorem tilted_ev (hw0 : 0 < w) (hh0 : 0 < h) (hn : cs.length = w * h) : Ev (fun k => impl_tray_tilted.f k w h cs (dirC d)) ((w : Int), (h : Int), tiltC w h cs d) := by
 have hz : 0 < w * h := Nat.mul_pos hw0 hh0
 refine Ev.bind (f := fun _ m => if (0 < cs.length ∧ cs.length ≤ 1000) ∧ fitsB m cs.length = true then some ((w : Int), (h : Int), laidCells cs (emptyC cs) (asF m) (fun _ => true)) else none) (slide_ev hw hh hs hd hw0 hh0 hn) (Ev.const ?_)
 rw [if_pos ⟨⟨by omega, by omega⟩, slide_fits hw hh hs hd hn⟩]
 rfl
theorem tilt_sets (hn : cs.length = w * h) : setsL cs (pairsP cs (strL w h cs d)) (emptyC cs) = tiltC w h cs d := by
 have hF := fits_tilt (slide_fits hw hh hs hd hn)
 have h1 := sets_laid cs (emptyC cs) (asF (pairsP cs (strL w h cs d)).reverse) hF (pairsP cs (strL w h cs d)) (fun _ => false) fun p hp => asF_of _ (slide_keys hw hh hs hd) p (List.mem_reverse.2 hp)
 rw [laid_none cs (emptyC cs) _ (by unfold emptyC; rw [List.length_map])] at h1
 rw [h1]
 refine laid_congr cs (emptyC cs) _ _ _ _ fun x _ => ⟨rfl, fun hx => ?_⟩
 rw [Bool.false_or, decide_eq_true_iff]
 cases e : asF (pairsP cs (strL w h cs d)).reverse (x : Int) with
 | none => exact absurd e hx
 | some c => exact List.mem_map.2 ⟨_, List.mem_reverse.1 (asF_mem _ _ _ e), rfl⟩
theorem tiltC_len : (tiltC w h cs d).length = cs.length := laid_len _ _ _ _
omit hw hh hs hd in
theorem tl_l1 (P : List (List Int)) (L : List Int) (n i a b wI hI : Int) (r : Int × Int × List Int) (hL : L.length ≤ 1000) (hLx : ∀ x ∈ L, 0 ≤ x ∧ x < (cs.length : Int)) : ∀ (l : List Int) (u nx : Nat) (out : List Int), L.drop u = l → u ≤ L.length → nx ≤ u → out.length = cs.length →
  Ev (fun k => spec_tiTilt.l0 k P n (wrap64 (i + 1)) wI hI cs a b (setsL cs ((l.filter (bI cs)).zip (L.drop nx)) out)) r → Ev (fun k => spec_tiTilt.l1 k L nx P n i L (L.length : Int) (u : Int) wI hI cs a b out) r
 | [], u, nx, out, hdr, hu, _, _, hE => by
  have h1 : u = L.length := by
   have := congrArg List.length hdr
   simp at this
   omega
  subst h1
  refine Ev.step hE fun k => ?_
  rw [spec_tiTilt.l1, if_neg (by omega)]
  rfl
 | x :: l, u, nx, out, hdr, hu, hnx, ho, hE => by
  obtain ⟨h1, h2, h3⟩ := rd_drop hdr;obtain ⟨x0, x1⟩ := hLx x (List.mem_of_mem_drop (i := u) (by rw [hdr]; exact List.mem_cons_self))
  by_cases hb : bI cs x = true
  ·rw [List.filter_cons_of_pos hb] at hE
   have hlt : nx < L.length := by omega
   obtain ⟨y0, y1⟩ := hLx _ (List.getElem_mem hlt)
   rw [List.drop_eq_getElem_cons hlt, List.zip_cons_cons] at hE
   refine Ev.step (tl_l1 P L n i a b wI hI r hL hLx l (u + 1) (nx + 1) (out.set (L[nx]).toNat (rd cs x)) h3 h1 (by omega) (by rw [List.length_set]; exact ho) hE) fun k => ?_
   rw [spec_tiTilt.l1, if_pos (by omega), if_pos (by omega), if_pos (by omega), h2, if_pos x0, if_pos x1, tyBall_eq, Option.bind_some, if_pos (show isB (rd cs x) = true from hb), if_pos (by omega), if_pos (by omega), rd_nat L nx hlt, if_pos y0, if_pos (by omega), wr1 nx (by omega), wr1 u (by omega)]
  ·rw [List.filter_cons_of_neg hb] at hE
   refine Ev.step (tl_l1 P L n i a b wI hI r hL hLx l (u + 1) nx out h3 h1 (by omega) ho hE) fun k => ?_
   rw [spec_tiTilt.l1, if_pos (by omega), if_pos (by omega), if_pos (by omega), h2, if_pos x0, if_pos x1, tyBall_eq, Option.bind_some, if_neg (show ¬ isB (rd cs x) = true from hb), wr1 u (by omega)]
omit hw hh hs hd in
theorem tl_l0 (P : List (List Int)) (a b wI hI : Int) : ∀ (Ls : List (List Int)) (i : Nat) (out : List Int), P.drop i = Ls → i ≤ P.length → i + Ls.length ≤ 1000 → (∀ s ∈ Ls, s.length ≤ 1000 ∧ ∀ x ∈ s, 0 ≤ x ∧ x < (cs.length : Int)) → out.length = cs.length → Ev (fun k => spec_tiTilt.l0 k P (P.length : Int) (i : Int) wI hI cs a b out) (a, b, setsL cs (pairsP cs Ls) out)
 | [], i, out, hdr, hi, _, _, _ => by
  have h1 : i = P.length := by
   have := congrArg List.length hdr
   simp at this
   omega
  subst h1
  refine Ev.step (Ev.const rfl) fun k => ?_
  rw [spec_tiTilt.l0, if_neg (by omega)]
  rfl
 | s :: Ls, i, out, hdr, _, hq, hx, ho => by
  obtain ⟨h1, h2, h3⟩ := rdS_drop hdr
  simp only [List.length_cons] at hq
  obtain ⟨s1, s2⟩ := hx s List.mem_cons_self;have ih := tl_l0 P a b wI hI Ls (i + 1) (setsL cs (pairsS cs s) out) h3 h1 (by omega) (fun t ht => hx t (List.mem_cons_of_mem _ ht)) (by rw [setsL_len]; exact ho)
  have he : setsL cs (pairsP cs (s :: Ls)) out = setsL cs (pairsP cs Ls) (setsL cs (pairsS cs s) out) := by
   unfold pairsP setsL
   rw [List.flatMap_cons, List.foldl_append]
  rw [he]
  rw [← wr1 i (by omega)] at ih
  refine Ev.step (tl_l1 P s P.length i a b wI hI _ s1 s2 s 0 0 out rfl (Nat.zero_le _) (Nat.le_refl _) ho (by rw [List.drop_zero]; exact ih)) fun k => ?_
  rw [spec_tiTilt.l0, if_pos (by omega), if_pos (by omega), if_pos (by omega), show rd_Lii P (i : Int) = s from h2]
  rfl
theorem tiTilt_ev (hw0 : 0 < w) (hh0 : 0 < h) (hn : cs.length = w * h) : Ev (fun k => spec_tiTilt.f k w h cs d) ((w : Int), (h : Int), tiltC w h cs d) := by
 have hz : 0 < w * h := Nat.mul_pos hw0 hh0;have h1 := cuts_many hw hh hs hd (cs := cs)
 have h2 : (strL w h cs d).length = (cutsL w h cs d).length := by unfold strL; exact List.length_mergeSort _
 refine Ev.congr (Ev.bind (f := fun k t109 => (spec_tiTilt.l0 k t109 (t109.length : Int) 0 w h cs w h (emptyC cs))) (tiStretches_ev hw hh hs hd hn) (g := fun k => spec_tiStretches.f k w h cs d) ?_) fun k => ?_
 ·rw [← tilt_sets hw hh hs hd hn]
  exact tl_l0 (strL w h cs d) w h w h (strL w h cs d) 0 (emptyC cs) rfl (Nat.zero_le _) (by omega) (str_in hw hh hs hd hn) (by unfold emptyC; rw [List.length_map])
 ·unfold spec_tiTilt.f
  rw [show spec_tyWalls.f w h cs = some ((w : Int), (h : Int), emptyC cs) from if_pos ⟨by omega, by omega⟩]
  rfl
end
end Go.Proofs.YtchjgphnglklcaaGreatDoor.Q
end
section
namespace Go.Proofs.YtchjgphnglklcaaGreatDoor.Q
open Go.RowKit Go.Proofs.YtchjgphnglklcaaGreatDoorW.PrintWords Go.Proofs.YtchjgphnglklcaaGreatDoorW.PrintLast Go.Proofs.YtchjgphnglklcaaGreatDoorW.PrintMore
theorem dw_nil {α : Type} (p : α → Bool) : ∀ l : List α, l.dropWhile p = [] ↔ ∀ b ∈ l, p b = true
 | [] => by simp
 | b :: l => by
  rw [List.dropWhile_cons]
  by_cases h : p b = true
  ·rw [if_pos h, dw_nil p l]
   simp [h]
  ·rw [if_neg h]
   simp [h]
theorem dw_all {α : Type} (p : α → Bool) : ∀ l : List α, (∀ b ∈ l.dropWhile p, p b = true) → ∀ b ∈ l, p b = true
 | [], _ => by simp
 | b :: l, h => by
  rw [List.dropWhile_cons] at h
  by_cases hb : p b = true
  ·rw [if_pos hb] at h
   have ih := dw_all p l h
   simpa [hb] using ih
  ·rw [if_neg hb] at h
   exact h
theorem trimS_nil (l cs : List UInt8) : Lib.trimS l cs = [] ↔ ∀ b ∈ l, cs.contains b = true := by
 unfold Lib.trimS Lib.trimLeftS Lib.trimRightS
 rw [dw_nil]
 constructor
 ·intro h
  have h2 := dw_all (cs.contains ·) l.reverse (fun b hb => h b (by simpa using hb))
  exact fun b hb => h2 b (by simpa using hb)
 ·intro h b hb
  rw [List.mem_reverse] at hb
  exact h b (by simpa using (List.dropWhile_sublist _).subset hb)
theorem trim_tell (s cut : ByteArray) (hs : s.size ≤ 1048576) (hc : cut.size < 100) (ha : asciiB cut.data.toList = true) :
  ∃ t, strings_Trim.f s cut = some t ∧ (t.toList = [] ↔ ∀ b ∈ s.data.toList, cut.data.toList.contains b = true) := by
 refine ⟨_, if_pos ⟨by omega, by omega, ha⟩, ?_⟩
 rw [← trimS_nil]
 generalize Lib.trimS s.data.toList cut.data.toList = l;have e : (⟨l.toArray⟩ : ByteArray).toList = l := ByteArray.toList_mk l
 rw [e]
theorem encode_name : ∀ n : Fin 6, Utf8.encode (97 + (n.val : Int)) = ⟨#[UInt8.ofNat (97 + n.val)]⟩ := by decide +kernel
theorem count_name (s : ByteArray) (n : Nat) (h1 : 97 ≤ n) (h2 : n ≤ 102) : (runeS.f (n : Int)).bind (fun t => strings_Count.f s t) = some ((s.data.toList.count (UInt8.ofNat n) : Nat) : Int) := by
 have h := encode_name ⟨n - 97, by omega⟩
 simp only [show (97 + ((n - 97 : Nat) : Int)) = (n : Int) by omega, show 97 + (n - 97) = n by omega] at h
 unfold runeS.f
 rw [Option.bind_some, h]
 rfl
theorem it_l1 (s : ByteArray) : ∀ (m n : Nat), 97 ≤ n → n + m = 103 → ∀ R : Bool, (R = true ↔ ∀ c : Nat, n ≤ c → c ≤ 102 → s.data.toList.count (UInt8.ofNat c) ≤ 1) → Ev (fun k => impl_IsTray.l1 k s n) R
 | 0, n, h1, h2, R, hR => by
  obtain rfl : R = true := hR.2 fun c h3 h4 => by omega
  refine Ev.step (Ev.const (o := some true) rfl) fun k => ?_
  rw [impl_IsTray.l1, if_neg (by omega)]
 | m + 1, n, h1, h2, R, hR => by
  have hc := count_name s n h1 (by omega);obtain ⟨t, e1, e2⟩ := Option.bind_eq_some_iff.1 hc
  have hw : wrap32 ((n : Int) + 1) = ((n + 1 : Nat) : Int) := by unfold wrap32; omega
  by_cases hn : s.data.toList.count (UInt8.ofNat n) ≤ 1
  ·have ih := it_l1 s m (n + 1) (by omega) (by omega) R (hR.trans ⟨fun h c h3 h4 => h c (by omega) h4, fun h c h3 h4 => by
    by_cases h5 : n = c
    ·rw [← h5]; exact hn
    ·exact h c (by omega) h4⟩)
   refine Ev.step ih fun k => ?_
   rw [impl_IsTray.l1, if_pos (by omega), e1, Option.bind_some, e2, Option.bind_some, if_neg (by omega), hw]
  ·obtain rfl : R = false := Bool.eq_false_iff.2 fun h => hn (hR.1 h n (Nat.le_refl _) (by omega))
   refine Ev.step (Ev.const (o := some false) rfl) fun k => ?_
   rw [impl_IsTray.l1, if_pos (by omega), e1, Option.bind_some, e2, Option.bind_some, if_pos (by omega)]
theorem named_count (s : ByteArray) : namedOK (ints (rows 47 s.data.toList).flatten) ↔ ∀ c : Nat, 97 ≤ c → c ≤ 102 → s.data.toList.count (UInt8.ofNat c) ≤ 1 := by
 have h : ∀ c : Nat, 97 ≤ c → c ≤ 102 → (ints (rows 47 s.data.toList).flatten).count (c : Int) = s.data.toList.count (UInt8.ofNat c) := by
  intro c h1 h2
  have e : ((UInt8.ofNat c).toNat : Int) = c := by
   rw [UInt8.toNat_ofNat']
   omega
  rw [← e, ints_count, rows_count 47 (UInt8.ofNat c)]
  intro e2;have := congrArg UInt8.toNat e2
  rw [UInt8.toNat_ofNat'] at this
  have h47 : (47 : UInt8).toNat = 47 := rfl
  omega
 constructor
 ·intro h1 c h2 h3
  rw [← h c h2 h3]
  exact h1 c (by omega) (by omega)
 ·intro h1 c h2 h3
  have h4 := h c.toNat (by omega) (by omega)
  rw [show ((c.toNat : Nat) : Int) = c by omega] at h4
  rw [h4]
  exact h1 _ (by omega) (by omega)
theorem within_eq (a lo hi : Int) : impl_within.f a lo hi = some (decide (lo ≤ a ∧ a ≤ hi)) := by
 unfold impl_within.f
 by_cases h : lo ≤ a
 ·rw [if_pos h]
  simp [h]
 ·rw [if_neg h]
  simp [h]
theorem isSize_eq (w h : Nat) (hw : w ≤ 1048576) (hh : h ≤ 1048577) : impl_isSize.f w h = some (decide (1 ≤ w ∧ w ≤ 7 ∧ 1 ≤ h ∧ h ≤ 7 ∧ w * h ≤ 36)) := by
 unfold impl_isSize.f
 rw [within_eq, Option.bind_some]
 by_cases h1 : 1 ≤ w ∧ w ≤ 7
 ·rw [decide_eq_true (by omega), if_pos rfl, within_eq, Option.bind_some]
  by_cases h2 : 1 ≤ h ∧ h ≤ 7
  ·rw [decide_eq_true (by omega), if_pos rfl]
   have h3 : w * h ≤ 7 * 7 := Nat.mul_le_mul h1.2 h2.2
   have e : wrap64 ((w : Int) * h) = ((w * h : Nat) : Int) := by
    rw [← Int.natCast_mul]
    exact w64 (by omega) (by omega)
   rw [e]
   congr 1
   exact decide_eq_decide.2 ⟨fun h => ⟨h1.1, h1.2, h2.1, h2.2, by omega⟩, fun h => by omega⟩
  ·rw [decide_eq_false (by omega), if_neg (by decide), decide_eq_false (by omega)]
 ·rw [decide_eq_false (by omega), if_neg (by decide), decide_eq_false (by omega)]
theorem rowsL_len (s : ByteArray) : (rowsL s).length = (rows 47 s.data.toList).length := by rw [← rowsL_map, List.length_map]
theorem rowsL_drop (s : ByteArray) (i : Nat) (h : i < (rowsL s).length) : (rows 47 s.data.toList).drop i = (rdOf ByteArray.empty (rowsL s) (i : Int)).data.toList :: (rows 47 s.data.toList).drop (i + 1) := by
 rw [← rowsL_map]
 have h2 : i < ((rowsL s).map (·.data.toList)).length := by rw [List.length_map]; exact h
 rw [List.drop_eq_getElem_cons h2]
 congr 1
 unfold rdOf
 rw [List.getElem_map, Int.toNat_natCast, List.getD_eq_getElem?_getD, List.getElem?_eq_getElem h]
 rfl
theorem rowsL_tw (s : ByteArray) (h : 0 < (rowsL s).length) : (rdOf ByteArray.empty (rowsL s) 0).size = tw (rows 47 s.data.toList) := by
 have e := rowsL_drop s 0 h
 rw [List.drop_zero] at e
 unfold tw
 rw [e, List.headD_cons, data_length]
 rfl
theorem rows_le (c : UInt8) (l r : List UInt8) (h : r ∈ rows c l) : r.length ≤ l.length := by
 have h1 := rows_flat c l;have h2 : r.length ≤ (rows c l).flatten.length := (List.sublist_flatten_of_mem h).length_le
 omega
def cutAll : ByteArray := ⟨#[35, 46, 111, 97, 98, 99, 100, 101, 102]⟩
theorem it_l0 (s : ByteArray) (hs : s.size ≤ 1048576) (w : Nat) (hw : (rdOf ByteArray.empty (rowsL s) 0).size = w) (K : Bool) (hK : Ev (fun k => impl_IsTray.l1 k s 97) K) :
  ∀ (m i : Nat), i + m = (rowsL s).length → Ev (fun k => impl_IsTray.l0 k s (rowsL s) (rowsL s) (rowsL s).length i) (if evenRows w ((rows 47 s.data.toList).drop i) then K else false)
 | 0, i, hi => by
  have e : (rows 47 s.data.toList).drop i = [] := List.drop_eq_nil_of_le (by rw [← rowsL_len]; omega)
  rw [e, if_pos (show evenRows w [] from fun r hr => by simp at hr)]
  refine Ev.step hK fun k => ?_
  rw [impl_IsTray.l0, if_neg (by omega)]
 | m + 1, i, hi => by
  have ih := it_l0 s hs w hw K hK m (i + 1) (by omega)
  have hlt : i < (rowsL s).length := by omega
  have hlen : (rowsL s).length ≤ 1048577 := by
   have h1 := rows_size 47 s.data.toList;have h2 := data_length s
   rw [rowsL_len]
   omega
  have hd := rowsL_drop s i hlt;have hrow : (rdOf ByteArray.empty (rowsL s) (i : Int)).data.toList ∈ rows 47 s.data.toList := (List.drop_sublist i _).subset (by rw [hd]; exact List.mem_cons_self)
  have hsz : (rdOf ByteArray.empty (rowsL s) (i : Int)).size ≤ 1048576 := by
   have h1 := rows_le 47 _ _ hrow
   rw [data_length, data_length] at h1
   omega
  have hwr : wrap64 ((i : Int) + 1) = ((i + 1 : Nat) : Int) := by rw [w64 (by omega) (by omega)]; omega
  rw [hd]
  generalize hrw : rdOf ByteArray.empty (rowsL s) (i : Int) = row at hsz hd ⊢;obtain ⟨t, et, ht⟩ := trim_tell row cutAll hsz (by decide) (by decide)
  have hcell : (∀ b ∈ row.data.toList, cutAll.data.toList.contains b = true) ↔ row.data.toList.all isCellB = true := by
   rw [List.all_eq_true]
   rfl
  rw [ite_iff ((evenRows_cons w row.data.toList ((rows 47 s.data.toList).drop (i + 1))).trans (show _ ↔ (row.size = w ∧ t.toList = []) ∧ evenRows w ((rows 47 s.data.toList).drop (i + 1)) by rw [← hcell, ← ht, data_length]))]
  by_cases h1 : row.size = w
  ·by_cases h2 : t.toList = []
   ·rw [ite_iff (show ((row.size = w ∧ t.toList = []) ∧ evenRows w ((rows 47 s.data.toList).drop (i + 1))) ↔ evenRows w ((rows 47 s.data.toList).drop (i + 1)) from ⟨fun h => h.2, fun h => ⟨⟨h1, h2⟩, h⟩⟩)]
    refine Ev.step ih fun k => ?_
    rw [impl_IsTray.l0, if_pos (by omega), if_pos (by omega), if_pos (by omega), if_pos (by omega), hrw, hw, if_pos (by omega)]
    show (strings_Trim.f row cutAll).bind _ = _
    rw [et, Option.bind_some, if_pos h2, hwr]
   ·rw [if_neg fun h => h2 h.1.2]
    refine Ev.step (Ev.const (o := some false) rfl) fun k => ?_
    rw [impl_IsTray.l0, if_pos (by omega), if_pos (by omega), if_pos (by omega), if_pos (by omega), hrw, hw, if_pos (by omega)]
    show (strings_Trim.f row cutAll).bind _ = _
    rw [et, Option.bind_some, if_neg h2]
  ·rw [if_neg fun h => h1 h.1.1]
   refine Ev.step (Ev.const (o := some false) rfl) fun k => ?_
   rw [impl_IsTray.l0, if_pos (by omega), if_pos (by omega), if_pos (by omega), if_pos (by omega), hrw, hw, if_neg (by omega)]
theorem isTray_ev (s : ByteArray) (hs : s.size ≤ 1048576) : Ev (fun k => impl_IsTray.f k s) (trayOf s).isSome := by
 have h1 := rows_size 47 s.data.toList;have h2 := data_length s;have h3 := rowsL_len s
 have hne : 0 < (rowsL s).length := by
  rw [h3]
  exact List.length_pos_iff.2 (rows_ne 47 _)
 have hw := rowsL_tw s hne
 have hwle : tw (rows 47 s.data.toList) ≤ 1048576 := by
  have e := rowsL_drop s 0 hne
  rw [List.drop_zero] at e
  have := rows_le 47 s.data.toList _ (by rw [e]; exact List.mem_cons_self)
  rw [data_length, data_length] at this
  have h4 : (rdOf ByteArray.empty (rowsL s) ((0 : Nat) : Int)).size = (rdOf ByteArray.empty (rowsL s) 0).size := rfl
  omega
 have hsp : strings_Split.f s ⟨#[47]⟩ = some (rowsL s) := if_pos ⟨by omega, by decide⟩;have hss := isSize_eq (tw (rows 47 s.data.toList)) (rowsL s).length hwle (by omega)
 have hf : ∀ k, impl_IsTray.f k s = if decide (1 ≤ tw (rows 47 s.data.toList) ∧ tw (rows 47 s.data.toList) ≤ 7 ∧ 1 ≤ (rowsL s).length ∧ (rowsL s).length ≤ 7 ∧ tw (rows 47 s.data.toList) * (rowsL s).length ≤ 36) = true then impl_IsTray.l0 k s (rowsL s) (rowsL s) (rowsL s).length 0 else some false := by
  intro k;unfold impl_IsTray.f
  rw [hsp, Option.bind_some, if_pos (by omega), hw, hss, Option.bind_some]
 refine Ev.congr ?_ hf
 unfold trayOf trayRows
 by_cases hc : 1 ≤ tw (rows 47 s.data.toList) ∧ tw (rows 47 s.data.toList) ≤ 7 ∧ 1 ≤ (rowsL s).length ∧ (rowsL s).length ≤ 7 ∧ tw (rows 47 s.data.toList) * (rowsL s).length ≤ 36
 ·rw [decide_eq_true hc]
  refine Ev.congr ?_ (fun k => if_pos rfl)
  have h5 := it_l0 s hs _ hw (decide (namedOK (ints (rows 47 s.data.toList).flatten))) (it_l1 s 6 97 (by omega) (by omega) _ (by rw [decide_eq_true_iff]; exact named_count s)) (rowsL s).length 0 (by omega)
  rw [List.drop_zero] at h5
  have e : (if okRows (rows 47 s.data.toList) then some ((tw (rows 47 s.data.toList) : Int), ((rows 47 s.data.toList).length : Int), ints (rows 47 s.data.toList).flatten) else none).isSome =
    if evenRows (tw (rows 47 s.data.toList)) (rows 47 s.data.toList) then decide (namedOK (ints (rows 47 s.data.toList).flatten)) else false := by
   by_cases h6 : evenRows (tw (rows 47 s.data.toList)) (rows 47 s.data.toList)
   ·by_cases h7 : namedOK (ints (rows 47 s.data.toList).flatten)
    ·rw [if_pos h6, if_pos (show okRows _ from ⟨by rw [h3] at hc; omega, h6, h7⟩), decide_eq_true h7]
     rfl
    ·rw [if_pos h6, if_neg fun h => h7 h.2.2, decide_eq_false h7]
     rfl
   ·rw [if_neg h6, if_neg fun h => h6 h.2.1]
    rfl
  rw [e]
  exact h5
 ·rw [if_neg fun h => hc (by have h4 := h.1; rw [h3]; omega), decide_eq_false hc]
  exact Ev.congr (Ev.const (o := some false) rfl) (fun k => if_neg (by decide))
theorem joined_ints (s : ByteArray) : bytesOf (joinedB s) = ints (rows 47 s.data.toList).flatten := by
 unfold bytesOf ints
 rw [joinedB_list]
theorem trayOf_row (s : ByteArray) : trayOf s = none ∨ (s.size ≤ 42 ∧ impl_read.f s = trayOf s) := by
 rcases h : trayOf s with _ | t
 ·exact Or.inl rfl
 ·have hs := trayOf_small s (by rw [h]; exact fun e => nomatch e)
  refine Or.inr ⟨hs, ?_⟩
  rw [← h]
  have hne : 0 < (rowsL s).length := by
   rw [rowsL_len]
   exact List.length_pos_iff.2 (rows_ne 47 _)
  have hw := rowsL_tw s hne;unfold trayOf trayRows at h ⊢
  split at h
  ·rename_i hk
   rw [if_pos hk]
   unfold impl_read.f
   rw [if_pos (by omega), joined_ints, rowsL_len, ← hw]
   rfl
  ·cases h
theorem trayOf_some {s : ByteArray} {t : Int × Int × List Int} (ht : trayOf s = some t) : ∃ w h : Nat, t = ((w : Int), (h : Int), ints (rows 47 s.data.toList).flatten) ∧ 1 ≤ w ∧ w ≤ 7 ∧ 1 ≤ h ∧ h ≤ 7 ∧ w * h ≤ 36 ∧ (ints (rows 47 s.data.toList).flatten).length = w * h := by
 unfold trayOf trayRows at ht
 split at ht
 ·rename_i hk
  have h1 := evenRows_flat _ _ hk.2.1;have h2 := List.length_pos_iff.2 (rows_ne 47 s.data.toList);have h3 := hk.1
  refine ⟨_, _, (Option.some.inj ht).symm, h3.1, h3.2.1, by omega, h3.2.2.1, h3.2.2.2, ?_⟩
  rw [ints_length, h1]
 ·cases ht
theorem form_len {s : ByteArray} {t : Int × Int × List Int} (ht : trayOf s = some t) : t.2.2.length ≤ 36 := by
 obtain ⟨w, h, rfl, h1, h2, h3, h4, h5, h6⟩ := trayOf_some ht
 show (ints _).length ≤ 36
 omega
theorem tray_parts {s : ByteArray} {t : Int × Int × List Int} (ht : trayOf s = some t) : ∃ (w h : Nat) (cs : List Int), t = ((w : Int), (h : Int), cs) ∧ 1 ≤ w ∧ w ≤ 7 ∧ 1 ≤ h ∧ h ≤ 7 ∧ w * h ≤ 36 ∧ cs.length = w * h := by
 obtain ⟨w, h, e, h1, h2, h3, h4, h5, h6⟩ := trayOf_some ht
 exact ⟨w, h, _, e, h1, h2, h3, h4, h5, h6⟩
theorem tray_read {s : ByteArray} {t : Int × Int × List Int} (ht : trayOf s = some t) : impl_read.f s = some t := by
 rw [← ht]
 exact ((trayOf_row s).resolve_left (by rw [ht]; exact fun e => nomatch e)).2
end Go.Proofs.YtchjgphnglklcaaGreatDoor.Q
end
section
namespace Go.Proofs.YtchjgphnglklcaaGreatDoor.Q
set_option linter.unusedSectionVars false
open Go.RowKit Go.Proofs.YtchjgphnglklcaaGreatDoorW.PrintWords Go.Proofs.YtchjgphnglklcaaGreatDoorW.PrintLast Go.Proofs.YtchjgphnglklcaaGreatDoorW.PrintMore
theorem toList_data (s : ByteArray) : s.toList = s.data.toList := by
 obtain ⟨⟨l⟩⟩ := s
 exact ByteArray.toList_mk l
end Go.Proofs.YtchjgphnglklcaaGreatDoor.Q
end
section
namespace Go.Proofs.YtchjgphnglklcaaGreatDoor.Q
open Go.RowKit Go.Proofs.YtchjgphnglklcaaGreatDoorW.PrintWords Go.Proofs.YtchjgphnglklcaaGreatDoorW.PrintLast Go.Proofs.YtchjgphnglklcaaGreatDoorW.PrintMore
attribute [local go_sem] max2_int min2_int max_two min_two max_three min_three max_four min_four
set_option linter.unusedVariables false
set_option linter.unusedSimpArgs false
def spec_tyText.l0 : Nat → ByteArray → Int → Int → Int → List Int → Option (ByteArray)
 | 0, _, _, _, _, _ => none
 | k + 1, x3, x4, x102000, x102001, x102002 => if x4 < x102001 then (if x4 > 0 then (if x3.size + 1 ≤ 9223372036854775807 then (if 0 ≤ (wrap64 (x4 * x102000)) then (if (wrap64 (x4 * x102000)) ≤ (wrap64 ((wrap64 (x4 + 1)) * x102000)) then (if (wrap64 ((wrap64 (x4 + 1)) * x102000)) ≤ (x102002.length : Int) then (if (x3 ++ (⟨#[47]⟩ : ByteArray)).size + (strOfNums ((x102002.take ((wrap64 ((wrap64 (x4 + 1)) * x102000)) : Int).toNat).drop ((wrap64 (x4 * x102000)) : Int).toNat)).size ≤ 9223372036854775807 then (spec_tyText.l0 k ((x3 ++ (⟨#[47]⟩ : ByteArray)) ++ (strOfNums ((x102002.take ((wrap64 ((wrap64 (x4 + 1)) * x102000)) : Int).toNat).drop ((wrap64 (x4 * x102000)) : Int).toNat))) (wrap64 (x4 + 1)) x102000 x102001 x102002) else (none)) else (none)) else (none)) else (none)) else (none)) else (if 0 ≤ (wrap64 (x4 * x102000)) then (if (wrap64 (x4 * x102000)) ≤ (wrap64 ((wrap64 (x4 + 1)) * x102000)) then (if (wrap64 ((wrap64 (x4 + 1)) * x102000)) ≤ (x102002.length : Int) then (if x3.size + (strOfNums ((x102002.take ((wrap64 ((wrap64 (x4 + 1)) * x102000)) : Int).toNat).drop ((wrap64 (x4 * x102000)) : Int).toNat)).size ≤ 9223372036854775807 then (spec_tyText.l0 k (x3 ++ (strOfNums ((x102002.take ((wrap64 ((wrap64 (x4 + 1)) * x102000)) : Int).toNat).drop ((wrap64 (x4 * x102000)) : Int).toNat))) (wrap64 (x4 + 1)) x102000 x102001 x102002) else (none)) else (none)) else (none)) else (none))) else (some x3)
def spec_tyText.f (k : Nat) (a0_0 : Int) (a0_1 : Int) (l0_2 : List Int) : Option (ByteArray) := spec_tyText.l0 k (⟨#[]⟩ : ByteArray) 0 a0_0 a0_1 l0_2
set_option maxHeartbeats 8000000 in
set_option maxRecDepth 100000 in
theorem spec_tyText.calls (k : Nat) (a0_0 : Int) (a0_1 : Int) (A0_2 : Option Addr) (c0_2 : Nat) (l0_2 : List Int) (r : ByteArray) (w : World) (hr0_2 : Kd.C (Kd.int .u8) w A0_2 l0_2.length l0_2) (hc0_2 : l0_2.length ≤ c0_2) (h : spec_tyText.f k a0_0 a0_1 l0_2 = some r) :
  Calls Tryz.prog 49 #[.agg #[.int .i64 a0_0, .int .i64 a0_1, .slice A0_2 l0_2.length c0_2]] w fun e w' => e = .returned (.string r) ∧ Below w.heap.size w w' := by
 have hu38 := Tryz.underlying38;have HR0_2 := Aside0.mk hr0_2;have HC0_2 := Aside0.mk hc0_2;clear hr0_2 hc0_2;have HB := Aside0.mk (Below.refl w.heap.size w);have H : (spec_tyText.l0 k (⟨#[]⟩ : ByteArray) 0 a0_0 a0_1 l0_2) = some r := h;clear h;have H' := Aside0.mk H;clear H
 go_enter Tryz.func49, Tryz.ntmps49
 go_wp2_with (first | ((with_reducible refine gate_dst (N := 1) rfl ?_); refine boxE (N := 1) (cs := #[.int .i64 a0_0, .int .i64 a0_1, .slice A0_2 l0_2.length c0_2]) (t := 38) ?_; intro gb101 hg w2 hbox hb; have n0_ := Aside0.mk (below_step (bel HB) hb); have n1_ := Aside0.mk (hbox); have n2_ := Aside0.mk (gsz hg (bel HB)); have n3_ := Aside0.mk (gsz hg (bel HB)); clear HB; have HB := n0_; have BK101 := n1_; have GW101 := n2_; have GE101 := n3_; clear n0_ n1_ n2_ n3_; clear hb hbox hg))
 go_loopg [3, 4] k (fun kq v3 v4 w' => ∃ (x3_1 : ByteArray) (x4_1 : Int), v3 = .string x3_1 ∧ v4 = .int .i64 x4_1 ∧ Aside0 (spec_tyText.l0 kq x3_1 x4_1 a0_0 a0_1 l0_2 = some r) ∧ Aside0 (kq ≤ k) ∧ Aside0 (w'.heap[gb101]? = some (.cells #[.int .i64 a0_0, .int .i64 a0_1, (.slice A0_2 l0_2.length c0_2)] 38 (0, 0))) ∧ Aside0 (Below w.heap.size w w'))
 case atStart => exact ⟨((⟨#[]⟩ : ByteArray)), (0), (by first | rfl | (simp; done) | (simp [*]; done)), (by first | rfl | (simp; done) | (simp [*]; done)), H', ⟨Nat.le_refl _⟩, ⟨blc⟩, ⟨bel HB⟩⟩
 case round =>
  clear H'
  try clear p2
  obtain ⟨x3_1, x4_1, rfl, rfl, HA, HK1, BK101, HB⟩ := hrel
  cases gk with
  | zero => exact absurd HA.out (by simp [spec_tyText.l0])
  | succ k1 =>
   have H := HA.out;clear HA
   simp only [spec_tyText.l0] at H
   by_cases c3 : x4_1 < a0_1
   ·rw [if_pos c3] at H
    have c3b0 : decide (x4_1 < a0_1) = true := decide_eq_true c3;clear c3
    by_cases c4 : x4_1 > 0
    ·rw [if_pos c4] at H
     have c4b0 : decide (0 < x4_1) = true := decide_eq_true c4;clear c4
     by_cases c5 : x3_1.size + 1 ≤ 9223372036854775807
     ·rw [if_pos c5] at H
      have c5b0 := eq_true c5;have c5b1 : decide (x3_1.size + 1 ≤ 9223372036854775807) = true := decide_eq_true c5
      try have c5b2 : (9223372036854775807 < x3_1.size + 1) = False := eq_false (Nat.not_lt.2 c5)
      obtain ⟨ji6, hji6⟩ : ∃ j_ : Int, (wrap64 (x4_1 * a0_0)) = j_ := ⟨_, rfl⟩
      replace H : (if 0 ≤ (ji6) then (if (ji6) ≤ (wrap64 ((wrap64 (x4_1 + 1)) * a0_0)) then (if (wrap64 ((wrap64 (x4_1 + 1)) * a0_0)) ≤ (l0_2.length : Int) then (if (x3_1 ++ (⟨#[47]⟩ : ByteArray)).size + (strOfNums ((l0_2.take ((wrap64 ((wrap64 (x4_1 + 1)) * a0_0)) : Int).toNat).drop ((ji6) : Int).toNat)).size ≤ 9223372036854775807 then (spec_tyText.l0 k1 ((x3_1 ++ (⟨#[47]⟩ : ByteArray)) ++ (strOfNums ((l0_2.take ((wrap64 ((wrap64 (x4_1 + 1)) * a0_0)) : Int).toNat).drop ((ji6) : Int).toNat))) (wrap64 (x4_1 + 1)) a0_0 a0_1 l0_2) else (none)) else (none)) else (none)) else (none)) = some r := by first | (rw [hji6] at H; exact H) | (simp only [hji6] at H ⊢; exact H)
      have hji6w : (IntKind.i64.wrap (x4_1 * a0_0)) = ji6 := (i64_w _).trans hji6
      by_cases c7 : 0 ≤ (ji6)
      ·rw [if_pos c7] at H
       have c7b0 := eq_true c7;have c7b1 : decide (0 ≤ (ji6)) = true := decide_eq_true c7;clear c7
       by_cases c8 : (ji6) ≤ (wrap64 ((wrap64 (x4_1 + 1)) * a0_0))
       ·rw [if_pos c8] at H
        have c8b0 := eq_true c8;have c8b1 : decide ((ji6) ≤ (wrap64 ((wrap64 (x4_1 + 1)) * a0_0))) = true := decide_eq_true c8
        by_cases c9 : (wrap64 ((wrap64 (x4_1 + 1)) * a0_0)) ≤ (l0_2.length : Int)
        ·rw [if_pos c9] at H
         have c9b0 := eq_true c9;have c9b1 : decide ((wrap64 ((wrap64 (x4_1 + 1)) * a0_0)) ≤ (l0_2.length : Int)) = true := decide_eq_true c9
         by_cases c10 : (x3_1 ++ (⟨#[47]⟩ : ByteArray)).size + (strOfNums ((l0_2.take ((wrap64 ((wrap64 (x4_1 + 1)) * a0_0)) : Int).toNat).drop ((ji6) : Int).toNat)).size ≤ 9223372036854775807
         ·rw [if_pos c10] at H
          have c10b0 := eq_true c10;have c10b1 : decide ((x3_1 ++ (⟨#[47]⟩ : ByteArray)).size + (strOfNums ((l0_2.take ((wrap64 ((wrap64 (x4_1 + 1)) * a0_0)) : Int).toNat).drop ((ji6) : Int).toNat)).size ≤ 9223372036854775807) = true := decide_eq_true c10
          try have c10b2 : (9223372036854775807 < (x3_1 ++ (⟨#[47]⟩ : ByteArray)).size + (strOfNums ((l0_2.take ((wrap64 ((wrap64 (x4_1 + 1)) * a0_0)) : Int).toNat).drop ((ji6) : Int).toNat)).size) = False := eq_false (Nat.not_lt.2 c10)
          try have c10b3 : (9223372036854775807 < x3_1.size + 1 + (strOfNums ((l0_2.take ((wrap64 ((wrap64 (x4_1 + 1)) * a0_0)) : Int).toNat).drop ((ji6) : Int).toNat)).size) = False := eq_false (Nat.not_lt.2 (by simp only [ByteArray.size_append] at c10; exact c10))
          have H' := Aside0.mk H;clear H;have hcz11_0 : wr.cell? ⟨gb101, 0, none⟩ = some (.int .i64 a0_0) := (blk_cell BK101.out 0).trans rfl;have hcz11_1 : wr.cell? ⟨gb101, 1, none⟩ = some (.int .i64 a0_1) := (blk_cell BK101.out 1).trans rfl;have hcz11_2 : wr.cell? ⟨gb101, 2, none⟩ = some (.slice A0_2 l0_2.length c0_2) := (blk_cell BK101.out 2).trans rfl;have hfz11_0 := blk_frozen BK101.out 0;have hfz11_1 := blk_frozen BK101.out 1;have hfz11_2 := blk_frozen BK101.out 2;obtain ⟨i012, hi012, _, hsz12, _⟩ := info_parts info5;obtain ⟨A12, hcut12, hA12, hC12⟩ := print_mid_of (P := Tryz.prog) (Value.int .u8) 0 36 5 .i64 .i64 Tryz.underlying36 hi012 hsz12 A0_2 c0_2 l0_2 (ji6) (wrap64 ((wrap64 (x4_1 + 1)) * a0_0)) (of_decide_eq_true (by first | (with_reducible assumption) | assumption)) (by first | omega | exact of_decide_eq_true (by first | (with_reducible assumption) | assumption)) (of_decide_eq_true (by first | (with_reducible assumption) | assumption)) HC0_2.out;have HR102 := Aside0.mk (Kd.C_of_reads (h1 := fun _ => rfl) (hA12 _ (Kd.reads_of_C HR0_2.out)));have HC102 := Aside0.mk hC12;clear hA12 hC12 hi012 hsz12;have hcv13 := Kd.C_string (P := Tryz.prog) (A := A12) (c := (c0_2 - (ji6).toNat)) Tryz.underlying36 Tryz.underlying5 Tryz.underlying9 (Kd.C_below HR102.out HB.out)
          try (rw [cut_len] at hcv13; rotate_left; exact Int.toNat_le.2 (of_decide_eq_true (by first | (with_reducible assumption) | assumption)))
          go_wp2
          go_roundg k1
          case measure => have := HK1.out; omega
          case rel => exact ⟨((x3_1 ++ (⟨#[47]⟩ : ByteArray)) ++ (strOfNums ((l0_2.take ((wrap64 ((wrap64 (x4_1 + 1)) * a0_0)) : Int).toNat).drop ((ji6) : Int).toNat))), (wrap64 (x4_1 + 1)), (by first | rfl | (simp; done) | (simp only [← hji6] <;> (first | rfl | simp)) | (simp [*]; done)), (by first | rfl | (simp; done) | (simp [*]; done)), H', ⟨by have := HK1.out; omega⟩, ⟨blc⟩, ⟨bel HB⟩⟩
         ·rw [if_neg c10] at H
          exact absurd H (by simp)
        ·rw [if_neg c9] at H
         exact absurd H (by simp)
       ·rw [if_neg c8] at H
        exact absurd H (by simp)
      ·rw [if_neg c7] at H
       exact absurd H (by simp)
     ·rw [if_neg c5] at H
      exact absurd H (by simp)
    ·rw [if_neg c4] at H
     have c4b0 : decide (0 < x4_1) = false := decide_eq_false c4;clear c4;obtain ⟨ji14, hji14⟩ : ∃ j_ : Int, (wrap64 (x4_1 * a0_0)) = j_ := ⟨_, rfl⟩
     replace H : (if 0 ≤ (ji14) then (if (ji14) ≤ (wrap64 ((wrap64 (x4_1 + 1)) * a0_0)) then (if (wrap64 ((wrap64 (x4_1 + 1)) * a0_0)) ≤ (l0_2.length : Int) then (if x3_1.size + (strOfNums ((l0_2.take ((wrap64 ((wrap64 (x4_1 + 1)) * a0_0)) : Int).toNat).drop ((ji14) : Int).toNat)).size ≤ 9223372036854775807 then (spec_tyText.l0 k1 (x3_1 ++ (strOfNums ((l0_2.take ((wrap64 ((wrap64 (x4_1 + 1)) * a0_0)) : Int).toNat).drop ((ji14) : Int).toNat))) (wrap64 (x4_1 + 1)) a0_0 a0_1 l0_2) else (none)) else (none)) else (none)) else (none)) = some r := by first | (rw [hji14] at H; exact H) | (simp only [hji14] at H ⊢; exact H)
     have hji14w : (IntKind.i64.wrap (x4_1 * a0_0)) = ji14 := (i64_w _).trans hji14
     by_cases c15 : 0 ≤ (ji14)
     ·rw [if_pos c15] at H
      have c15b0 := eq_true c15;have c15b1 : decide (0 ≤ (ji14)) = true := decide_eq_true c15;clear c15
      by_cases c16 : (ji14) ≤ (wrap64 ((wrap64 (x4_1 + 1)) * a0_0))
      ·rw [if_pos c16] at H
       have c16b0 := eq_true c16;have c16b1 : decide ((ji14) ≤ (wrap64 ((wrap64 (x4_1 + 1)) * a0_0))) = true := decide_eq_true c16
       by_cases c17 : (wrap64 ((wrap64 (x4_1 + 1)) * a0_0)) ≤ (l0_2.length : Int)
       ·rw [if_pos c17] at H
        have c17b0 := eq_true c17;have c17b1 : decide ((wrap64 ((wrap64 (x4_1 + 1)) * a0_0)) ≤ (l0_2.length : Int)) = true := decide_eq_true c17
        by_cases c18 : x3_1.size + (strOfNums ((l0_2.take ((wrap64 ((wrap64 (x4_1 + 1)) * a0_0)) : Int).toNat).drop ((ji14) : Int).toNat)).size ≤ 9223372036854775807
        ·rw [if_pos c18] at H
         have c18b0 := eq_true c18;have c18b1 : decide (x3_1.size + (strOfNums ((l0_2.take ((wrap64 ((wrap64 (x4_1 + 1)) * a0_0)) : Int).toNat).drop ((ji14) : Int).toNat)).size ≤ 9223372036854775807) = true := decide_eq_true c18
         try have c18b2 : (9223372036854775807 < x3_1.size + (strOfNums ((l0_2.take ((wrap64 ((wrap64 (x4_1 + 1)) * a0_0)) : Int).toNat).drop ((ji14) : Int).toNat)).size) = False := eq_false (Nat.not_lt.2 c18)
         have H' := Aside0.mk H;clear H;have hcz19_0 : wr.cell? ⟨gb101, 0, none⟩ = some (.int .i64 a0_0) := (blk_cell BK101.out 0).trans rfl;have hcz19_1 : wr.cell? ⟨gb101, 1, none⟩ = some (.int .i64 a0_1) := (blk_cell BK101.out 1).trans rfl;have hcz19_2 : wr.cell? ⟨gb101, 2, none⟩ = some (.slice A0_2 l0_2.length c0_2) := (blk_cell BK101.out 2).trans rfl;have hfz19_0 := blk_frozen BK101.out 0;have hfz19_1 := blk_frozen BK101.out 1;have hfz19_2 := blk_frozen BK101.out 2;obtain ⟨i020, hi020, _, hsz20, _⟩ := info_parts info5;obtain ⟨A20, hcut20, hA20, hC20⟩ := print_mid_of (P := Tryz.prog) (Value.int .u8) 0 36 5 .i64 .i64 Tryz.underlying36 hi020 hsz20 A0_2 c0_2 l0_2 (ji14) (wrap64 ((wrap64 (x4_1 + 1)) * a0_0)) (of_decide_eq_true (by first | (with_reducible assumption) | assumption)) (by first | omega | exact of_decide_eq_true (by first | (with_reducible assumption) | assumption)) (of_decide_eq_true (by first | (with_reducible assumption) | assumption)) HC0_2.out;have HR103 := Aside0.mk (Kd.C_of_reads (h1 := fun _ => rfl) (hA20 _ (Kd.reads_of_C HR0_2.out)));have HC103 := Aside0.mk hC20;clear hA20 hC20 hi020 hsz20;have hcv21 := Kd.C_string (P := Tryz.prog) (A := A20) (c := (c0_2 - (ji14).toNat)) Tryz.underlying36 Tryz.underlying5 Tryz.underlying9 (Kd.C_below HR103.out HB.out)
         try (rw [cut_len] at hcv21; rotate_left; exact Int.toNat_le.2 (of_decide_eq_true (by first | (with_reducible assumption) | assumption)))
         go_wp2
         go_roundg k1
         case measure => have := HK1.out; omega
         case rel => exact ⟨(x3_1 ++ (strOfNums ((l0_2.take ((wrap64 ((wrap64 (x4_1 + 1)) * a0_0)) : Int).toNat).drop ((ji14) : Int).toNat))), (wrap64 (x4_1 + 1)), (by first | rfl | (simp; done) | (simp only [← hji14] <;> (first | rfl | simp)) | (simp [*]; done)), (by first | rfl | (simp; done) | (simp [*]; done)), H', ⟨by have := HK1.out; omega⟩, ⟨blc⟩, ⟨bel HB⟩⟩
        ·rw [if_neg c18] at H
         exact absurd H (by simp)
       ·rw [if_neg c17] at H
        exact absurd H (by simp)
      ·rw [if_neg c16] at H
       exact absurd H (by simp)
     ·rw [if_neg c15] at H
      exact absurd H (by simp)
   ·rw [if_neg c3] at H
    have c3b0 : decide (x4_1 < a0_1) = false := decide_eq_false c3;clear c3;obtain rfl := Option.some.inj H;have hcz22_0 : wr.cell? ⟨gb101, 0, none⟩ = some (.int .i64 a0_0) := (blk_cell BK101.out 0).trans rfl;have hcz22_1 : wr.cell? ⟨gb101, 1, none⟩ = some (.int .i64 a0_1) := (blk_cell BK101.out 1).trans rfl;have hcz22_2 : wr.cell? ⟨gb101, 2, none⟩ = some (.slice A0_2 l0_2.length c0_2) := (blk_cell BK101.out 2).trans rfl;have hfz22_0 := blk_frozen BK101.out 0;have hfz22_1 := blk_frozen BK101.out 1;have hfz22_2 := blk_frozen BK101.out 2
    go_wp2
    go_ret
    exact ⟨by first | rfl | (simp [errW_none, errW_some] <;> rfl) | (simp [*, errW_none, errW_some] <;> rfl), bel HB⟩
end Go.Proofs.YtchjgphnglklcaaGreatDoor.Q
end
section
namespace Go.Proofs.YtchjgphnglklcaaGreatDoor.Q
set_option linter.unusedSectionVars false
open Go.RowKit Go.Proofs.YtchjgphnglklcaaGreatDoorW.PrintWords Go.Proofs.YtchjgphnglklcaaGreatDoorW.PrintLast Go.Proofs.YtchjgphnglklcaaGreatDoorW.PrintMore
theorem le_big {n : Nat} (h : n ≤ 200) : n ≤ 9223372036854775807 := Nat.le_trans h (by decide)
theorem w64n (n : Nat) (h : n ≤ 1000000) : wrap64 (n : Int) = (n : Int) := w64 (by omega) (by omega)
theorem w64s (n : Nat) (h : n ≤ 1000000) : wrap64 ((n : Int) + 1) = ((n + 1 : Nat) : Int) := by rw [w64 (by omega) (by omega)]; omega
def jn : List (List UInt8) → List UInt8
 | [] => []
 | [r] => r
 | r :: s :: rs => r ++ 47 :: jn (s :: rs)
theorem jn_join : ∀ xs : List (List UInt8), Lib.join xs [47] = jn xs
 | [] => rfl
 | [r] => by simp [Lib.join, List.intercalate, jn]
 | r :: s :: rs => by
  have ih := jn_join (s :: rs);unfold Lib.join at ih ⊢
  simp only [List.intercalate, List.intersperse, List.flatten_cons, jn] at ih ⊢
  rw [← ih]
  simp
theorem jn_snoc : ∀ (xs : List (List UInt8)) (x : List UInt8), jn (xs ++ [x]) = if xs = [] then x else jn xs ++ 47 :: x
 | [], x => rfl
 | [r], x => by simp [jn]
 | r :: s :: rs, x => by
  have ih := jn_snoc (s :: rs) x
  rw [if_neg (by simp)] at ih ⊢
  show r ++ 47 :: jn ((s :: rs) ++ [x]) = _
  rw [ih]
  simp [jn]
theorem rows_jn : ∀ xs : List (List UInt8), xs ≠ [] → (∀ r ∈ xs, (47 : UInt8) ∉ r) → rows 47 (jn xs) = xs
 | [], h, _ => absurd rfl h
 | [r], _, h => rows_free 47 r (h r (by simp))
 | r :: s :: rs, _, h => by
  show rows 47 (r ++ 47 :: jn (s :: rs)) = _
  rw [rows_at 47 _ r (h r (by simp)), rows_jn (s :: rs) (by simp) fun x hx => h x (List.mem_cons_of_mem _ hx)]
def rowL (l : List Int) (c k : Nat) : List UInt8 := ((l.drop (k * c)).take c).map fun n => UInt8.ofNat n.toNat
def txL (l : List Int) (c n : Nat) : List UInt8 := jn ((List.range n).map (rowL l c))
def tx (l : List Int) (c n : Nat) : ByteArray := ⟨(txL l c n).toArray⟩
theorem tx_list (l : List Int) (c n : Nat) : (tx l c n).data.toList = txL l c n := rfl
theorem txL_succ (l : List Int) (c n : Nat) : txL l c (n + 1) = if n = 0 then rowL l c 0 else txL l c n ++ 47 :: rowL l c n := by
 unfold txL
 rw [List.range_succ, List.map_append, List.map_singleton, jn_snoc]
 by_cases h : n = 0
 ·subst h
  simp
 ·rw [if_neg h, if_neg (by simpa using h)]
theorem rowL_len (l : List Int) (c k : Nat) : (rowL l c k).length ≤ c := by
 unfold rowL
 rw [List.length_map, List.length_take]
 omega
theorem txL_len (l : List Int) (c : Nat) : ∀ n, (txL l c n).length ≤ n * (c + 1)
 | 0 => by simp [txL, jn]
 | n + 1 => by
  have ih := txL_len l c n;have h1 := rowL_len l c n;have h2 := rowL_len l c 0
  rw [txL_succ, Nat.succ_mul]
  split
  ·omega
  ·rw [List.length_append, List.length_cons]
   omega
theorem ba_ext {a b : ByteArray} (h : a.data.toList = b.data.toList) : a = b := by
 obtain ⟨⟨a⟩⟩ := a;obtain ⟨⟨b⟩⟩ := b
 simp at h
 rw [h]
section
variable {w h : Nat} {cs : List Int} (hw1 : 1 ≤ w) (hh1 : 1 ≤ h) (hs : w * h ≤ 36) (hn : cs.length = w * h)
include hw1 hh1 hs hn
theorem ty_text_l0 : ∀ (m t : Nat), t + m = h → Ev (fun k => spec_tyText.l0 k (tx cs w t) t w h cs) (tx cs w h)
 | 0, t, ht => by
  obtain rfl : t = h := by omega
  refine Ev.step (Ev.const (o := some (tx cs w t)) rfl) fun k => ?_
  rw [spec_tyText.l0, if_neg (by omega)]
 | m + 1, t, ht => by
  have ih := ty_text_l0 m (t + 1) (by omega)
  have hth : t < h := by omega
  have h4 : h ≤ w * h := Nat.le_mul_of_pos_left h hw1
  have hle : (t + 1) * w ≤ w * h := by rw [Nat.mul_comm w h]; exact Nat.mul_le_mul_right w hth
  have ht1 : t * w + w = (t + 1) * w := (Nat.succ_mul t w).symm;have hB : (t + 1) * w ≤ 36 := Nat.le_trans hle hs;have hA : t * w ≤ 36 := Nat.le_trans (Nat.mul_le_mul_right w (Nat.le_succ t)) hB
  have hcut : strOfNums ((cs.take (((((t + 1) * w : Nat) : Int)).toNat)).drop ((((t * w : Nat) : Int)).toNat)) = strOfNums ((cs.drop (t * w)).take w) := by
   rw [Int.toNat_natCast, Int.toNat_natCast, List.drop_take, show (t + 1) * w - t * w = w from by rw [← ht1]; exact Nat.add_sub_cancel_left _ _]
  have h6 : t * (w + 1) ≤ 72 := by
   have a1 : t * (w + 1) ≤ h * (w + 1) := Nat.mul_le_mul_right _ (by omega)
   have a2 : h * (w + 1) ≤ 72 := by rw [Nat.mul_add, Nat.mul_one, Nat.mul_comm]; omega
   exact Nat.le_trans a1 a2
  have hsz : (tx cs w t).size ≤ 72 := by
   show (txL cs w t).toArray.size ≤ 72
   rw [List.size_toArray]
   exact Nat.le_trans (txL_len cs w t) h6
  have hrs : (strOfNums ((cs.drop (t * w)).take w)).size ≤ 36 := by
   rw [strOfNums_size, List.length_take]
   exact Nat.le_trans (Nat.min_le_left _ _) (Nat.le_trans (Nat.le_mul_of_pos_right w hh1) hs)
  have hs1 : (tx cs w t ++ (⟨#[47]⟩ : ByteArray)).size ≤ 73 := by
   rw [ByteArray.size_append]
   exact Nat.add_le_add hsz (Nat.le_refl 1)
  have e0 : (0 : Int) ≤ ((t * w : Nat) : Int) := Int.natCast_nonneg _;have e1 : ((t * w : Nat) : Int) ≤ (((t + 1) * w : Nat) : Int) := Int.ofNat_le.2 (Nat.mul_le_mul_right w (Nat.le_succ t));have e2 : (((t + 1) * w : Nat) : Int) ≤ (cs.length : Int) := Int.ofNat_le.2 (by rw [hn]; exact hle);have b1 : (tx cs w t).size + (strOfNums ((cs.drop (t * w)).take w)).size ≤ 9223372036854775807 := le_big (Nat.le_trans (Nat.add_le_add hsz hrs) (by decide));have b2 : (tx cs w t).size + 1 ≤ 9223372036854775807 := le_big (Nat.le_trans (Nat.add_le_add hsz (Nat.le_refl 1)) (by decide));have b3 : (tx cs w t ++ (⟨#[47]⟩ : ByteArray)).size + (strOfNums ((cs.drop (t * w)).take w)).size ≤ 9223372036854775807 := le_big (Nat.le_trans (Nat.add_le_add hs1 hrs) (by decide));have c1 : (t : Int) < (h : Int) := Int.ofNat_lt.2 hth;have hwt := w64s t (Nat.le_trans (Nat.le_of_lt hth) (Nat.le_trans h4 (Nat.le_trans hs (by decide))))
  have m0 : wrap64 ((t : Int) * (w : Int)) = ((t * w : Nat) : Int) := by
   rw [← Int.natCast_mul]
   exact w64n _ (Nat.le_trans hA (by decide))
  have m1 : wrap64 (((t + 1 : Nat) : Int) * (w : Int)) = (((t + 1) * w : Nat) : Int) := by
   rw [← Int.natCast_mul]
   exact w64n _ (Nat.le_trans hB (by decide))
  refine Ev.step ih fun k => ?_
  rw [spec_tyText.l0, if_pos c1]
  by_cases h0 : t = 0
  ·have c2 : ¬ (t : Int) > 0 := by
    rw [h0]
    decide
   have hx : (tx cs w t) ++ strOfNums ((cs.drop (t * w)).take w) = tx cs w (t + 1) := by
    apply ba_ext
    rw [tx_list, txL_succ, if_pos h0, ByteArray.data_append, Array.toList_append, tx_list, h0]
    rfl
   rw [if_neg c2, hwt, m0, m1, if_pos e0, if_pos e1, if_pos e2, hcut, if_pos b1, hx]
  ·have c2 : (t : Int) > 0 := Int.natCast_pos.2 (Nat.pos_of_ne_zero h0)
   have hx : (tx cs w t ++ (⟨#[47]⟩ : ByteArray)) ++ strOfNums ((cs.drop (t * w)).take w) = tx cs w (t + 1) := by
    apply ba_ext
    rw [tx_list, txL_succ, if_neg h0, ByteArray.data_append, Array.toList_append, ByteArray.data_append, Array.toList_append, tx_list, List.append_assoc]
    rfl
   rw [if_pos c2, if_pos b2, hwt, m0, m1, if_pos e0, if_pos e1, if_pos e2, hcut, if_pos b3, hx]
theorem tyText_ev : Ev (fun k => spec_tyText.f k w h cs) (tx cs w h) := ty_text_l0 hw1 hh1 hs hn h 0 (by omega)
end
def cellsOK (cs : List Int) : Prop := ∀ c ∈ cs, ∃ b : UInt8, c = (b.toNat : Int) ∧ isCellB b = true
theorem rowL_cells {cs : List Int} (hc : cellsOK cs) (c k : Nat) : (rowL cs c k).all isCellB = true ∧ ints (rowL cs c k) = (cs.drop (k * c)).take c := by
 unfold rowL ints
 have h1 : ∀ l : List Int, (∀ x ∈ l, ∃ b : UInt8, x = (b.toNat : Int) ∧ isCellB b = true) → (l.map fun n => UInt8.ofNat n.toNat).all isCellB = true ∧ (l.map fun n => UInt8.ofNat n.toNat).map (fun b => (b.toNat : Int)) = l := by
  intro l
  induction l with
  | nil => intro _; exact ⟨rfl, rfl⟩
  | cons x l ih =>
   intro h;obtain ⟨b, rfl, hb⟩ := h x List.mem_cons_self
   obtain ⟨i1, i2⟩ := ih fun y hy => h y (List.mem_cons_of_mem _ hy)
   have e : UInt8.ofNat (((b.toNat : Nat) : Int)).toNat = b := by simp
   refine ⟨?_, ?_⟩
   ·rw [List.map_cons, List.all_cons, e, hb, i1]
    rfl
   ·rw [List.map_cons, List.map_cons, e, i2]
 exact h1 _ fun x hx => hc x (List.drop_subset _ _ (List.take_subset _ _ hx))
theorem cellB_47 : isCellB 47 = false := by decide
theorem flat_rows (cs : List Int) (c : Nat) : ∀ m, ((List.range m).map fun k => (cs.drop (k * c)).take c).flatten = cs.take (m * c)
 | 0 => by simp
 | m + 1 => by
  rw [List.range_succ, List.map_append, List.flatten_append, flat_rows cs c m, List.map_singleton, List.flatten_singleton, Nat.succ_mul, List.take_add]
theorem ints_flat : ∀ L : List (List UInt8), ints L.flatten = (L.map ints).flatten
 | [] => rfl
 | r :: L => by rw [List.flatten_cons, ints_append, ints_flat L, List.map_cons, List.flatten_cons]
section
variable {w h : Nat} {cs : List Int} (hw1 : 1 ≤ w) (hw : w ≤ 7) (hh1 : 1 ≤ h) (hh : h ≤ 7) (hs : w * h ≤ 36) (hn : cs.length = w * h)
include hw1 hw hh1 hh hs hn
theorem tx_rows (hc : cellsOK cs) : rows 47 (tx cs w h).data.toList = (List.range h).map (rowL cs w) := by
 rw [tx_list]
 unfold txL
 refine rows_jn _ (by simp; omega) fun r hr => ?_
 obtain ⟨k, _, rfl⟩ := List.mem_map.1 hr;intro h47;have h1 := List.all_eq_true.1 (rowL_cells hc w k).1 47 h47
 rw [cellB_47] at h1
 cases h1
theorem tx_flat (hc : cellsOK cs) : ints ((List.range h).map (rowL cs w)).flatten = cs := by
 rw [ints_flat, List.map_map]
 have h1 : (List.range h).map (ints ∘ rowL cs w) = (List.range h).map fun k => (cs.drop (k * w)).take w := List.map_congr_left fun k _ => (rowL_cells hc w k).2
 rw [h1, flat_rows, List.take_of_length_le (by rw [hn, Nat.mul_comm]; exact Nat.le_refl _)]
theorem tx_size : (tx cs w h).size ≤ 1048576 := by
 show (txL cs w h).toArray.size ≤ _
 rw [List.size_toArray]
 have h5 := txL_len cs w h
 have h6 : h * (w + 1) ≤ 72 := by
  have h4 : h ≤ w * h := Nat.le_mul_of_pos_left h hw1
  rw [Nat.mul_add, Nat.mul_one, Nat.mul_comm]
  omega
 omega
end
theorem jn_rows : ∀ l : List UInt8, jn (rows 47 l) = l
 | [] => rfl
 | b :: l => by
  have ih := jn_rows l;unfold rows
  split
  ·rename_i e
   subst e
   cases hr : rows 47 l with
   | nil => exact absurd hr (rows_ne 47 l)
   | cons r rs =>
    rw [hr] at ih
    show [] ++ 47 :: jn (r :: rs) = _
    rw [ih]
    rfl
  ·split
   ·rename_i e
    exact absurd e (rows_ne 47 l)
   ·rename_i r rs e
    rw [e] at ih
    cases rs with
    | nil =>
     show b :: r = _
     rw [show r = l from ih]
    | cons s rs =>
     show (b :: r) ++ 47 :: jn (s :: rs) = _
     rw [List.cons_append]
     congr 1
theorem row_back : ∀ (rs : List (List UInt8)) (c : Nat), (∀ r ∈ rs, r.length = c) → (List.range rs.length).map (rowL (ints rs.flatten) c) = rs
 | [], _, _ => rfl
 | r :: rs, c, h => by
  have hr := h r List.mem_cons_self
  have hb : ∀ l : List UInt8, (ints l).map (fun n => UInt8.ofNat n.toNat) = l := by
   intro l;unfold ints
   rw [List.map_map]
   exact (List.map_congr_left fun b _ => by simp).trans (List.map_id _)
  rw [List.length_cons, List.range_succ_eq_map, List.map_cons, List.map_map]
  have h0 : rowL (ints (r :: rs).flatten) c 0 = r := by
   unfold rowL
   rw [Nat.zero_mul, List.drop_zero, List.flatten_cons, ints_append, List.take_left' (by rw [ints_length]; exact hr), hb]
  rw [h0]
  congr 1
  refine Eq.trans (List.map_congr_left fun k _ => ?_) (row_back rs c fun x hx => h x (List.mem_cons_of_mem _ hx))
  show rowL (ints (r :: rs).flatten) c (k + 1) = _
  unfold rowL
  rw [List.flatten_cons, ints_append, Nat.succ_mul, Nat.add_comm, ← List.drop_drop, List.drop_left' (by rw [ints_length]; exact hr)]
theorem tray_own {t : ByteArray} {w h : Nat} {cs : List Int} (ht : trayOf t = some ((w : Int), (h : Int), cs)) : cellsOK cs ∧ tx cs w h = t ∧ cs = ints (rows 47 t.data.toList).flatten := by
 unfold trayOf trayRows at ht
 split at ht
 case isFalse => cases ht
 rename_i hk
 have h1 := Option.some.inj ht
 have hw : tw (rows 47 t.data.toList) = w := by have := congrArg (fun z => z.1) h1; simp only at this; omega
 have hh : (rows 47 t.data.toList).length = h := by have := congrArg (fun z => z.2.1) h1; simp only at this; omega
 have hc : ints (rows 47 t.data.toList).flatten = cs := congrArg (fun z => z.2.2) h1
 refine ⟨fun c hm => ?_, ?_, hc.symm⟩
 ·rw [← hc] at hm
  unfold ints at hm;obtain ⟨b, hb, rfl⟩ := List.mem_map.1 hm;obtain ⟨row, r1, r2⟩ := List.mem_flatten.1 hb
  exact ⟨b, rfl, List.all_eq_true.1 (hk.2.1 row r1).2 b r2⟩
 ·refine ba_ext ?_
  rw [tx_list]
  unfold txL
  rw [← hc, ← hh, row_back (rows 47 t.data.toList) w fun r hr => by rw [← hw]; exact (hk.2.1 r hr).1, jn_rows]
end Go.Proofs.YtchjgphnglklcaaGreatDoor.Q
end
section
namespace Go.Proofs.YtchjgphnglklcaaGreatDoor.Q
set_option linter.unusedSectionVars false
open Go.RowKit Go.Proofs.YtchjgphnglklcaaGreatDoorW.PrintWords Go.Proofs.YtchjgphnglklcaaGreatDoorW.PrintLast Go.Proofs.YtchjgphnglklcaaGreatDoorW.PrintMore
theorem laid_cells {cs em : List Int} {f : Int → Option Int} {ca : Int → Bool} (hc : cellsOK cs) (he : cellsOK em) (hl : em.length = cs.length) : cellsOK (laidCells cs em f ca) := by
 intro c hm;unfold laidCells at hm;obtain ⟨j, hj, rfl⟩ := List.mem_map.1 hm;have hj := List.mem_range.1 hj
 split
 ·rename_i x hx
  have hxl : x < cs.length := by
   unfold comes at hx
   exact List.mem_range.1 (List.mem_of_find?_eq_some hx)
  rw [rd_nat cs x hxl]
  exact hc _ (List.getElem_mem hxl)
 ·rw [rd_nat em j (by omega)]
  exact he _ (List.getElem_mem _)
theorem empty_cells {cs : List Int} (hc : cellsOK cs) : cellsOK (emptyC cs) := by
 intro c hm;unfold emptyC at hm;obtain ⟨x, hx, rfl⟩ := List.mem_map.1 hm
 split
 ·exact ⟨46, rfl, by decide⟩
 ·exact hc x hx
theorem tilt_cells (w h : Nat) {cs : List Int} (d : Nat) (hc : cellsOK cs) : cellsOK (tiltC w h cs d) := laid_cells hc (empty_cells hc) (by unfold emptyC; rw [List.length_map])
end Go.Proofs.YtchjgphnglklcaaGreatDoor.Q
end
section
namespace Go.Proofs.YtchjgphnglklcaaGreatDoor.Q
open Go.RowKit Go.Proofs.YtchjgphnglklcaaGreatDoorW.PrintWords Go.Proofs.YtchjgphnglklcaaGreatDoorW.PrintLast Go.Proofs.YtchjgphnglklcaaGreatDoorW.PrintMore
set_option linter.unusedSectionVars false
def cnt (cs s : List Int) : List Int := s.map (rd cs)
end Go.Proofs.YtchjgphnglklcaaGreatDoor.Q
end
section
namespace Go.Proofs.YtchjgphnglklcaaGreatDoor.Q
open Go.RowKit Go.Shelf Go.Proofs.YtchjgphnglklcaaGreatDoorW.PrintWords Go.Proofs.YtchjgphnglklcaaGreatDoorW.PrintLast Go.Proofs.YtchjgphnglklcaaGreatDoorW.PrintMore
set_option linter.unusedSectionVars false
section
variable {w h : Nat} {cs : List Int} (hw : w ≤ 7) (hh : h ≤ 7) (hs : w * h ≤ 36) {d : Nat} (hd : d < 4)
include hw hh hs hd
theorem str_flat_mem (y : Int) (y0 : 0 ≤ y) (y1 : y < ((w * h : Nat) : Int)) : y ∈ (strL w h cs d).flatten ↔ rd cs y ≠ 35 := by
 have hpm : y ∈ (strL w h cs d).flatten ↔ y ∈ (cutsL w h cs d).flatten := (List.mergeSort_perm (cutsL w h cs d) leM).flatten.mem_iff
 rw [hpm, cuts_flat, List.mem_filter]
 obtain ⟨n, rfl⟩ := Int.eq_ofNat_of_zero_le y0;have h1 := (lines_ok hw hh hs hd).2.1 n (by omega)
 constructor
 ·intro h2
  simpa using h2.2
 ·intro h2
  exact ⟨h1, by simpa using h2⟩
end
end Go.Proofs.YtchjgphnglklcaaGreatDoor.Q
end
section
namespace Go.Proofs.YtchjgphnglklcaaGreatDoor.Q
open Go.RowKit Go.Shelf Go.Proofs.YtchjgphnglklcaaGreatDoorW.PrintWords Go.Proofs.YtchjgphnglklcaaGreatDoorW.PrintLast Go.Proofs.YtchjgphnglklcaaGreatDoorW.PrintMore
set_option linter.unusedSectionVars false
def slideM (w h : Nat) (cs : List Int) (d : Nat) : List (Int × Int) := (pairsP cs (strL w h cs d)).reverse
def slideF (w h : Nat) (cs : List Int) (d : Nat) (x : Int) : Int := (asF (slideM w h cs d) x).getD 0
section
variable {w h : Nat} {cs : List Int} (hw : w ≤ 7) (hh : h ≤ 7) (hs : w * h ≤ 36) {d : Nat} (hd : d < 4)
include hw hh hs hd
theorem slide_some (hn : cs.length = w * h) (x : Int) (x0 : 0 ≤ x) (x1 : x < (cs.length : Int)) (hb : isB (rd cs x) = true) : asF (slideM w h cs d) x = some (slideF w h cs d x) ∧ 0 ≤ slideF w h cs d x ∧ slideF w h cs d x < (cs.length : Int) := by
 have h35 : rd cs x ≠ 35 := fun e => by rw [e, isB_35] at hb; cases hb
 have hm : x ∈ (pairsP cs (strL w h cs d)).map Prod.fst := by
  rw [pairs_keys]
  exact List.mem_filter.2 ⟨(str_flat_mem hw hh hs hd x x0 (by rw [← hn]; exact x1)).2 h35, hb⟩
 obtain ⟨p, hp, rfl⟩ := List.mem_map.1 hm;have h1 := asF_of _ (slide_keys hw hh hs hd (cs := cs)) p (List.mem_reverse.2 hp);have h2 := (pair_in hw hh hs hd hn p hp).2
 have h3 : slideF w h cs d p.1 = p.2 := by
  unfold slideF slideM
  rw [h1]
  rfl
 rw [h3]
 exact ⟨h1, h2⟩
theorem tilt_at (hn : cs.length = w * h) (x : Int) (x0 : 0 ≤ x) (x1 : x < (cs.length : Int)) (hb : isB (rd cs x) = true) : rd (tiltC w h cs d) (slideF w h cs d x) = rd cs x :=
 laid_at cs (emptyC cs) _ (fits_tilt (slide_fits hw hh hs hd hn)) x _ (slide_some hw hh hs hd hn x x0 x1 hb).1
theorem tilt_from (hn : cs.length = w * h) (y : Int) (y0 : 0 ≤ y) (y1 : y < (cs.length : Int)) (hb : isB (rd (tiltC w h cs d) y) = true) : ∃ x : Int, (0 ≤ x ∧ x < (cs.length : Int)) ∧ isB (rd cs x) = true ∧ slideF w h cs d x = y ∧ rd cs x = rd (tiltC w h cs d) y := by
 have hF := fits_tilt (slide_fits hw hh hs hd hn);obtain ⟨n, rfl⟩ := Int.eq_ofNat_of_zero_le y0
 by_cases hx : ∃ x : Int, asF (slideM w h cs d) x = some (n : Int)
 ·obtain ⟨x, hx⟩ := hx
  obtain ⟨a, b, _, _⟩ := hF.dom x _ hx;have h1 : rd (tiltC w h cs d) (n : Int) = rd cs x := laid_at cs (emptyC cs) _ hF x _ hx
  exact ⟨x, ⟨a, b⟩, by rw [← h1]; exact hb, by unfold slideF; rw [hx]; rfl, h1.symm⟩
 ·have h1 : rd (tiltC w h cs d) (n : Int) = rd (emptyC cs) (n : Int) := laid_off cs (emptyC cs) _ _ n (by omega) fun x _ e => hx ⟨x, e⟩
  rw [h1, emptyC_rd cs n (by omega)] at hb
  split at hb
  ·rw [isB_46] at hb
   cases hb
  ·rename_i h2
   exact absurd hb h2
theorem only_tilt (hn : cs.length = w * h) {c x : Int} (hc : isB c = true) (ho : only cs c x) : only (tiltC w h cs d) c (slideF w h cs d x) := by
 obtain ⟨x0, x1, hx, hu⟩ := ho
 have hb : isB (rd cs x) = true := by rw [hx]; exact hc
 have hl : (tiltC w h cs d).length = cs.length := tiltC_len hw hh hs hd;obtain ⟨_, s0, s1⟩ := slide_some hw hh hs hd hn x x0 x1 hb
 refine ⟨s0, by rw [hl]; exact s1, (tilt_at hw hh hs hd hn x x0 x1 hb).trans hx, fun y y0 y1 hy => ?_⟩
 rw [hl] at y1
 obtain ⟨z, hz, hzb, hzs, hzr⟩ := tilt_from hw hh hs hd hn y y0 y1 (by rw [hy]; exact hc)
 rw [← hzs, hu z hz.1 hz.2 (hzr.trans hy)]
end
end Go.Proofs.YtchjgphnglklcaaGreatDoor.Q
end
section
namespace Go.Proofs.YtchjgphnglklcaaGreatDoor.Q
structure BSt (α : Type) where
 x : α
 far : Nat
 word : List Nat
 before : Int
 dir : Nat
section
set_option linter.unusedSectionVars false
set_option linter.unusedVariables false
variable {α : Type} [DecidableEq α] (T : Nat → α → α)
def bIdx : List (BSt α) → α → Nat → Option Nat
 | [], _, _ => none
 | s :: l, y, i => if s.x = y then some i else bIdx l y (i + 1)
theorem b_idx_some : ∀ (L : List (BSt α)) (y : α) (i k : Nat), bIdx L y i = some k → i ≤ k ∧ k < i + L.length ∧ ∃ s : BSt α, L[k - i]? = some s ∧ s.x = y
 | [], y, i, k, h => by cases h
 | s :: l, y, i, k, h => by
  unfold bIdx at h
  split at h
  ·rename_i e
   cases h
   exact ⟨Nat.le_refl _, by simp, s, by simp, e⟩
  ·obtain ⟨h1, h2, s', h3, h4⟩ := b_idx_some l y (i + 1) k h
   refine ⟨by omega, by simp; omega, s', ?_, h4⟩
   rw [show k - i = (k - (i + 1)) + 1 by omega, List.getElem?_cons_succ]
   exact h3
theorem b_idx_none : ∀ (L : List (BSt α)) (y : α) (i : Nat), bIdx L y i = none ↔ ∀ s ∈ L, s.x ≠ y
 | [], y, i => by simp [bIdx]
 | s :: l, y, i => by
  unfold bIdx
  split
  ·rename_i e
   simp [e]
  ·rename_i e
   rw [b_idx_none l y (i + 1)]
   simp [e]
def bOne (L : List (BSt α)) (i : Nat) (s : BSt α) (d : Nat) : Option (List (BSt α) × Nat) :=
 match bIdx L (T d s.x) 0 with
 | some k => some (L, k)
 | none => if L.length = 300 then none else some (L ++ [⟨T d s.x, s.far + 1, s.word ++ [d], i, d⟩], L.length)
def bFour (i : Nat) (s : BSt α) : List Nat → List (BSt α) → List Nat → Option (List (BSt α) × List Nat)
 | [], L, nx => some (L, nx)
 | d :: ds, L, nx => (bOne T L i s d).bind fun p => bFour i s ds p.1 (nx ++ [p.2])
def bAll : Nat → Nat → List (BSt α) → List (List Nat) → Option (List (BSt α) × List (List Nat))
 | 0, _, L, N => some (L, N)
 | m + 1, i, L, N => match L[i]? with
  | none => some (L, N)
  | some s => (bFour T i s [0, 1, 2, 3] L []).bind fun p => bAll m (i + 1) p.1 (N ++ [p.2])
structure BInv (t : α) (L : List (BSt α)) : Prop where
 first : ∃ l, L = ⟨t, 0, [], -1, 0⟩ :: l
 len : L.length ≤ 300
 nodup : (L.map BSt.x).Nodup
 back : ∀ (k : Nat) (s : BSt α), L[k]? = some s → 0 < k → ∃ (j : Nat) (b : BSt α), s.before = (j : Int) ∧ j < k ∧ L[j]? = some b ∧ s.x = T s.dir b.x ∧ s.far = b.far + 1 ∧ s.word = b.word ++ [s.dir] ∧ s.dir < 4
theorem BInv.made (t : α) : BInv T t [⟨t, 0, [], -1, 0⟩] where
 first := ⟨[], rfl⟩
 len := by simp
 nodup := by simp
 back := fun k s h hk => by
  rw [List.getElem?_eq_none (by simp; omega)] at h
  cases h
theorem BInv.one {t : α} {L : List (BSt α)} (h : BInv T t L) {i d : Nat} {s : BSt α} (hs : L[i]? = some s) (hd : d < 4) {p : List (BSt α) × Nat} (hp : bOne T L i s d = some p) :
  BInv T t p.1 ∧ (∃ l, p.1 = L ++ l) ∧ ∃ r : BSt α, p.1[p.2]? = some r ∧ r.x = T d s.x := by
 have hi := (List.getElem?_eq_some_iff.1 hs).1;unfold bOne at hp
 split at hp
 ·rename_i k hk
  cases hp
  obtain ⟨_, h2, r, h3, h4⟩ := b_idx_some L _ 0 k hk
  exact ⟨h, ⟨[], by simp⟩, r, by simpa using h3, h4⟩
 ·rename_i hn
  split at hp
  ·cases hp
  ·rename_i hl
   cases hp
   have hlen := h.len
   refine ⟨⟨?_, by simp; omega, ?_, ?_⟩, ⟨_, rfl⟩, ⟨_, by simp; rfl, rfl⟩⟩
   ·obtain ⟨l, e⟩ := h.first
    exact ⟨l ++ _, by rw [e]; rfl⟩
   ·rw [List.map_append, List.nodup_append]
    refine ⟨h.nodup, by simp, fun a ha b hb e => ?_⟩
    simp at hb
    obtain ⟨s', hs', rfl⟩ := List.mem_map.1 ha
    exact (b_idx_none L _ 0).1 hn s' hs' (e.trans hb)
   ·intro k s' hk h0
    rcases Nat.lt_trichotomy k L.length with hlt | heq | hgt
    ·rw [List.getElem?_append_left hlt] at hk
     obtain ⟨j, b, h1, h2, h3, h4⟩ := h.back k s' hk h0
     exact ⟨j, b, h1, h2, by rw [List.getElem?_append_left (by omega)]; exact h3, h4⟩
    ·subst heq
     simp at hk
     subst hk
     exact ⟨i, s, rfl, hi, by rw [List.getElem?_append_left hi]; exact hs, rfl, rfl, rfl, hd⟩
    ·rw [List.getElem?_eq_none (by simp; omega)] at hk
     cases hk
theorem b_four_inv {t : α} {i : Nat} {s : BSt α} : ∀ (ds : List Nat) (L : List (BSt α)) (nx : List Nat) (p : List (BSt α) × List Nat), BInv T t L → L[i]? = some s → (∀ d ∈ ds, d < 4) → bFour T i s ds L nx = some p →
  BInv T t p.1 ∧ (∃ l, p.1 = L ++ l) ∧ ∃ ms : List Nat, p.2 = nx ++ ms ∧ ms.length = ds.length ∧ ∀ (q d k : Nat), ds[q]? = some d → ms[q]? = some k → ∃ r : BSt α, p.1[k]? = some r ∧ r.x = T d s.x
 | [], L, nx, p, h, hs, hd, hp => by
  cases hp
  exact ⟨h, ⟨[], by simp⟩, [], by simp, rfl, fun q d k h1 => by simp at h1⟩
 | d :: ds, L, nx, p, h, hs, hd, hp => by
  unfold bFour at hp;obtain ⟨p1, h1, h2⟩ := Option.bind_eq_some_iff.1 hp;obtain ⟨g1, ⟨l1, g2⟩, r, g3, g4⟩ := h.one T hs (hd d (by simp)) h1;have hi := (List.getElem?_eq_some_iff.1 hs).1;obtain ⟨k1, ⟨l2, k2⟩, ms, k3, k4, k5⟩ := b_four_inv ds p1.1 (nx ++ [p1.2]) p g1 (by rw [g2, List.getElem?_append_left hi]; exact hs) (fun d' hd' => hd d' (by simp [hd'])) h2
  refine ⟨k1, ⟨l1 ++ l2, by rw [k2, g2, List.append_assoc]⟩, p1.2 :: ms, by rw [k3, List.append_assoc]; rfl, by simp [k4], fun q d' k h1 h2 => ?_⟩
  cases q with
  | zero =>
   simp at h1 h2
   subst h1 h2
   refine ⟨r, ?_, g4⟩
   rw [k2, List.getElem?_append_left ((List.getElem?_eq_some_iff.1 g3).1)]
   exact g3
  | succ q =>
   simp at h1 h2
   exact k5 q d' k h1 h2
structure BDone (t : α) (L : List (BSt α)) (N : List (List Nat)) : Prop where
 inv : BInv T t L
 len : N.length = L.length
 next : ∀ (i : Nat) (s : BSt α), L[i]? = some s → ∃ nx : List Nat, N[i]? = some nx ∧ nx.length = 4 ∧ ∀ (d k : Nat), nx[d]? = some k → ∃ r : BSt α, L[k]? = some r ∧ r.x = T d s.x
theorem b_all_fin {t : α} : ∀ (m i : Nat) (L : List (BSt α)) (N : List (List Nat)) (p : List (BSt α) × List (List Nat)), m + i = 301 → i ≤ L.length → N.length = i → BInv T t L →
  (∀ (j : Nat) (s : BSt α), j < i → L[j]? = some s → ∃ nx : List Nat, N[j]? = some nx ∧ nx.length = 4 ∧ ∀ (d k : Nat), nx[d]? = some k → ∃ r : BSt α, L[k]? = some r ∧ r.x = T d s.x) → bAll T m i L N = some p → BDone T t p.1 p.2
 | 0, i, L, N, p, hm, hi, hN, h, hc, hp => by
  have := h.len
  omega
 | m + 1, i, L, N, p, hm, hi, hN, h, hc, hp => by
  unfold bAll at hp
  split at hp
  ·rename_i hs
   cases hp
   have := List.getElem?_eq_none_iff.1 hs
   have e : i = L.length := by omega
   subst e
   exact ⟨h, hN, fun j s hj => hc j s (List.getElem?_eq_some_iff.1 hj).1 hj⟩
  ·rename_i s hs
   obtain ⟨q, h1, h2⟩ := Option.bind_eq_some_iff.1 hp;obtain ⟨k1, ⟨l2, k2⟩, ms, k3, k4, k5⟩ := b_four_inv T [0, 1, 2, 3] L [] q h hs (by decide) h1;have hi' := (List.getElem?_eq_some_iff.1 hs).1
   refine b_all_fin m (i + 1) q.1 (N ++ [q.2]) p (by omega) (by rw [k2]; simp; omega) (by simp [hN]) k1 (fun j s' hj hj2 => ?_) h2
   rcases Nat.lt_or_ge j i with hlt | hge
   ·rw [k2, List.getElem?_append_left (by omega)] at hj2
    obtain ⟨nx, g1, g2, g3⟩ := hc j s' hlt hj2
    refine ⟨nx, by rw [List.getElem?_append_left (by omega)]; exact g1, g2, fun d k hk => ?_⟩
    obtain ⟨r, g4, g5⟩ := g3 d k hk
    exact ⟨r, by rw [k2, List.getElem?_append_left ((List.getElem?_eq_some_iff.1 g4).1)]; exact g4, g5⟩
   ·have e : j = i := by omega
    subst e
    rw [k2, List.getElem?_append_left hi', hs] at hj2
    cases hj2
    rw [List.nil_append] at k3
    subst k3
    refine ⟨q.2, by rw [← hN]; simp, k4, fun d k hk => ?_⟩
    have hd : d < 4 := by
     have := (List.getElem?_eq_some_iff.1 hk).1
     simp at k4
     omega
    refine k5 d d k ?_ hk
    match d, hd with
    | 0, _ => rfl
    | 1, _ => rfl
    | 2, _ => rfl
    | 3, _ => rfl
inductive BWay : α → α → Prop
 | here (x : α) : BWay x x
 | go {x y : α} (d : Nat) (hd : d < 4) (h : BWay x y) : BWay x (T d y)
theorem BInv.way {t : α} {L : List (BSt α)} (h : BInv T t L) : ∀ (k : Nat) (s : BSt α), L[k]? = some s → BWay T t s.x := by
 intro k
 induction k using Nat.strongRecOn with
 | _ k ih =>
  intro s hs
  rcases Nat.eq_zero_or_pos k with e | hk
  ·subst e
   obtain ⟨l, e⟩ := h.first
   rw [e] at hs
   cases hs
   exact .here t
  ·obtain ⟨j, b, h1, h2, h3, h4, h5, h6, h7⟩ := h.back k s hs hk
   rw [h4]
   exact .go _ h7 (ih j h2 b h3)
structure BSorted (L : List (BSt α)) (top : Nat) : Prop where
 up : ∀ (a b : Nat) (sa sb : BSt α), a ≤ b → L[a]? = some sa → L[b]? = some sb → sa.far ≤ sb.far
 top : ∀ (b : Nat) (sb : BSt α), L[b]? = some sb → sb.far ≤ top
theorem BSorted.one {L : List (BSt α)} {i d : Nat} {s : BSt α} (h : BSorted L (s.far + 1)) {p : List (BSt α) × Nat} (hp : bOne T L i s d = some p) : BSorted p.1 (s.far + 1) := by
 unfold bOne at hp
 split at hp
 ·cases hp
  exact h
 ·split at hp
  ·cases hp
  ·cases hp
   refine ⟨fun a b sa sb hab ha hb => ?_, fun b sb hb => ?_⟩
   ·rcases Nat.lt_trichotomy b L.length with hlt | heq | hgt
    ·rw [List.getElem?_append_left hlt] at hb
     rw [List.getElem?_append_left (by omega)] at ha
     exact h.up a b sa sb hab ha hb
    ·subst heq
     simp at hb
     subst hb
     rcases Nat.lt_or_ge a L.length with h1 | h1
     ·rw [List.getElem?_append_left h1] at ha
      exact h.top a sa ha
     ·have e : a = L.length := by omega
      subst e
      simp at ha
      subst ha
      exact Nat.le_refl _
    ·rw [List.getElem?_eq_none (by simp; omega)] at hb
     cases hb
   ·rcases Nat.lt_trichotomy b L.length with hlt | heq | hgt
    ·rw [List.getElem?_append_left hlt] at hb
     exact h.top b sb hb
    ·subst heq
     simp at hb
     subst hb
     exact Nat.le_refl _
    ·rw [List.getElem?_eq_none (by simp; omega)] at hb
     cases hb
theorem b_four_sorted {i : Nat} {s : BSt α} : ∀ (ds : List Nat) (L : List (BSt α)) (nx : List Nat) (p : List (BSt α) × List Nat), BSorted L (s.far + 1) → bFour T i s ds L nx = some p → BSorted p.1 (s.far + 1)
 | [], L, nx, p, h, hp => by
  cases hp
  exact h
 | d :: ds, L, nx, p, h, hp => by
  unfold bFour at hp;obtain ⟨p1, h1, h2⟩ := Option.bind_eq_some_iff.1 hp
  exact b_four_sorted ds p1.1 _ p (h.one T h1) h2
theorem b_one_pre {L : List (BSt α)} {i d : Nat} {s : BSt α} {p : List (BSt α) × Nat} (hp : bOne T L i s d = some p) : ∃ l, p.1 = L ++ l := by
 unfold bOne at hp
 split at hp
 ·cases hp
  exact ⟨[], by simp⟩
 ·split at hp
  ·cases hp
  ·cases hp
   exact ⟨_, rfl⟩
theorem b_four_pre {i : Nat} {s : BSt α} : ∀ (ds : List Nat) (L : List (BSt α)) (nx : List Nat) (p : List (BSt α) × List Nat), bFour T i s ds L nx = some p → ∃ l, p.1 = L ++ l
 | [], L, nx, p, hp => by
  cases hp
  exact ⟨[], by simp⟩
 | d :: ds, L, nx, p, hp => by
  unfold bFour at hp;obtain ⟨p1, h1, h2⟩ := Option.bind_eq_some_iff.1 hp;obtain ⟨l1, e1⟩ := b_one_pre T h1;obtain ⟨l2, e2⟩ := b_four_pre ds p1.1 _ p h2
  exact ⟨l1 ++ l2, by rw [e2, e1, List.append_assoc]⟩
theorem b_all_sorted : ∀ (m i : Nat) (L : List (BSt α)) (N : List (List Nat)) (p : List (BSt α) × List (List Nat)), (∀ s, L[i]? = some s → BSorted L (s.far + 1)) → (L[i]? = none → ∃ q, BSorted L q) → (m = 0 → ∃ q, BSorted L q) → bAll T m i L N = some p → ∃ q, BSorted p.1 q
 | 0, i, L, N, p, _, _, h0, hp => by
  cases hp
  exact h0 rfl
 | m + 1, i, L, N, p, hs, hn, _, hp => by
  unfold bAll at hp
  split at hp
  ·rename_i h
   cases hp
   exact hn h
  ·rename_i s h
   obtain ⟨q, h1, h2⟩ := Option.bind_eq_some_iff.1 hp;have hq := b_four_sorted T _ L _ q (hs s h) h1;obtain ⟨l, e⟩ := b_four_pre T _ L _ q h1;have hi := (List.getElem?_eq_some_iff.1 h).1
   refine b_all_sorted m (i + 1) q.1 _ p (fun s' h' => ⟨hq.up, fun b sb hb => ?_⟩) (fun _ => ⟨_, hq⟩) (fun _ => ⟨_, hq⟩) h2
   have h3 : s.far ≤ s'.far := hq.up i (i + 1) s s' (by omega) (by rw [e, List.getElem?_append_left hi]; exact h) h';have := hq.top b sb hb
   omega
theorem b_all_up {t : α} {m : Nat} {p : List (BSt α) × List (List Nat)} (hp : bAll T m 0 [⟨t, 0, [], -1, 0⟩] [] = some p) : ∃ q, BSorted p.1 q := by
 have h : ∀ q, BSorted [(⟨t, 0, [], -1, 0⟩ : BSt α)] q := fun q => by
  have h0 : ∀ (a : Nat) (sa : BSt α), [(⟨t, 0, [], -1, 0⟩ : BSt α)][a]? = some sa → sa.far = 0 := fun a sa h => by
   cases a with
   | zero =>
    cases h
    rfl
   | succ a => simp at h
  refine ⟨fun a b sa sb _ ha hb => by rw [h0 a sa ha]; exact Nat.zero_le _, fun b sb hb => by rw [h0 b sb hb]; exact Nat.zero_le _⟩
 exact b_all_sorted T m 0 _ _ p (fun s _ => h _) (fun _ => ⟨0, h 0⟩) (fun _ => ⟨0, h 0⟩) hp
end
end Go.Proofs.YtchjgphnglklcaaGreatDoor.Q
end
section
namespace Go.Proofs.YtchjgphnglklcaaGreatDoor.Q
set_option linter.unusedSectionVars false
open Go.RowKit Go.Proofs.YtchjgphnglklcaaGreatDoorW.PrintWords Go.Proofs.YtchjgphnglklcaaGreatDoorW.PrintLast Go.Proofs.YtchjgphnglklcaaGreatDoorW.PrintMore
structure Zs where
 w : Int
 h : Int
 cs : List Int
 text : ByteArray
 far : Int
 words : Int
 before : Int
 dir : Int
 next : List Int
def zCells (z : Zs) (a b : Value) : Array Value := #[.int .i64 z.w, .int .i64 z.h, a, .string z.text, .int .i64 z.far, .int .i64 z.words, .int .i64 z.before, .int .i64 z.dir, b]
def ptK : Kd Nat := Kd.scalar (fun g => .pointer (some ⟨g, 0, none⟩)) (fun _ => rfl)
structure StC (w : World) (A : Option Addr) (L : List Zs) : Prop where
 at' : ∀ (i : Nat) (z : Zs), L[i]? = some z → ∃ (ad : Addr) (g : Nat) (Ag An : Option Addr) (cg cn : Nat), A = some ad ∧ w.cell? (ad.add i) = some (.pointer (some ⟨g, 0, none⟩)) ∧ w.heap[g]? = some (.cells (zCells z (.slice Ag z.cs.length cg) (.slice An z.next.length cn)) 41 (0, 0)) ∧
  (z.cs.length ≤ cg ∧ Kd.C (Kd.int .u8) w Ag z.cs.length z.cs) ∧ z.next.length ≤ cn ∧ Kd.C (Kd.int .i64) w An z.next.length z.next
theorem StC.below {w w1 : World} {A : Option Addr} {L : List Zs} (h : StC w A L) (hb : Below w.heap.size w w1) : StC w1 A L where
 at' := fun i z hz => by
  obtain ⟨ad, g, Ag, An, cg, cn, h1, h2, h3, ⟨h4, h5⟩, h6, h7⟩ := h.at' i z hz
  exact ⟨ad, g, Ag, An, cg, cn, h1, pw_cell_below hb h2, (hb.block g (blk_lt h3)).trans h3, ⟨h4, Kd.C_below h5 hb⟩, h6, Kd.C_below h7 hb⟩
structure Zm where
 g : Nat
 vg : Value
 vn : Value
 z : Zs
structure okZ (w : World) (B : Nat) (m : Zm) : Prop where
 base : B ≤ m.g
 blk : w.heap[m.g]? = some (.cells (zCells m.z m.vg m.vn) 41 (0, 0))
 grid : Kd.R (Kd.int .u8) 5 w B (fun _ => True) m.vg m.z.cs
 next : Kd.R (Kd.int .i64) 3 w B (fun _ => True) m.vn m.z.next
structure SB (w : World) (B : Nat) (v : Value) (M : List Zm) : Prop where
 row : Kd.R ptK 34 w B (fun _ => True) v (M.map Zm.g)
 ok : ∀ m ∈ M, okZ w B m
 nodup : (M.map Zm.g).Nodup
 apart : M.Pairwise fun a b => ∀ k, a.vn.ownBlock = some k → b.vn.ownBlock ≠ some k
theorem R_all {α : Type} {d : Kd α} {e base : Nat} {ok : Nat → Prop} {w : World} {v : Value} {xs : List α} (h : d.R e w base ok v xs) : d.R e w base (fun _ => True) v xs := Kd.R_mono h fun _ _ => trivial
section
variable {w w1 : World} {B : Nat} {v : Value} {M : List Zm} {m : Zm}
theorem okZ.below (h : okZ w B m) (hb : Below w.heap.size w w1) : okZ w1 B m := ⟨h.base, (hb.block m.g (blk_lt h.blk)).trans h.blk, Kd.R_below h.grid hb, Kd.R_below h.next hb⟩
theorem SB.below (h : SB w B v M) (hb : Below w.heap.size w w1) : SB w1 B v M := ⟨Kd.R_below h.row hb, fun m hm => (h.ok m hm).below hb, h.nodup, h.apart⟩
theorem okZ.turn (h : okZ w B m) {b : Option Nat} (hg : w.grownBy w1 b) (h0 : some m.g ≠ b) (h1 : ∀ k, m.vg.ownBlock = some k → some k ≠ b) (h2 : ∀ k, m.vn.ownBlock = some k → some k ≠ b) : okZ w1 B m :=
 ⟨h.base, blk_grown h.blk hg h0, R_all (Kd.R_grown (Kd.R_tight rfl h.grid) hg fun k hk => h1 k hk.symm), R_all (Kd.R_grown (Kd.R_tight rfl h.next) hg fun k hk => h2 k hk.symm)⟩
theorem own_type {α β : Type} {d : Kd α} {d' : Kd β} {e e' b b' : Nat} {ok ok' : Nat → Prop} {u v : Value} {xs : List α} {ys : List β} (h : d.R e w b ok u xs) (h' : d'.R e' w b' ok' v ys) (hne : e ≠ e') : ∀ k, u.ownBlock = some k → some k ≠ v.ownBlock := fun k hk he => by
 obtain ⟨i1, o1⟩ := Kd.R_own h;obtain ⟨i2, o2⟩ := Kd.R_own h';obtain ⟨c1, e1⟩ := own_typed o1 k hk;obtain ⟨c2, e2⟩ := own_typed o2 k he.symm
 rw [e1] at e2
 injection e2 with e2
 injection e2 with _ e2
 exact hne e2
theorem okZ.set (h : okZ w B m) {g j : Nat} {u : Value} {c : Array Value} (hb : w.heap[g]? = some (.cells c 41 (0, 0))) (hne : m.g ≠ g) : okZ (w.setCell ⟨g, j, none⟩ u) B m :=
 ⟨h.base, blk_far h.blk (p := ⟨g, j, none⟩) hne u, Kd.R_set h.grid hb (by decide) j u, Kd.R_set h.next hb (by decide) j u⟩
theorem SB.at (h : SB w B v M) {i : Nat} {m : Zm} (hm : M[i]? = some m) : okZ w B m := h.ok m (List.mem_of_getElem? hm)
theorem map_set (l : List Zm) (i : Nat) (m' : Zm) {m : Zm} (hm : l[i]? = some m) (hg : m'.g = m.g) : (l.set i m').map Zm.g = l.map Zm.g := by
 refine List.ext_getElem? fun j => ?_
 rw [List.getElem?_map, List.getElem?_map, List.getElem?_set]
 split
 ·rename_i e
  subst e
  split
  ·rw [hm]
   exact congrArg some hg
  ·rw [List.getElem?_eq_none (by omega)]
 ·rfl
theorem ne_of_nodup {l : List Zm} (h : (l.map Zm.g).Nodup) {i j : Nat} {a b : Zm} (ha : l[i]? = some a) (hb : l[j]? = some b) (hne : i ≠ j) : a.g ≠ b.g := by
 have hp := List.pairwise_iff_getElem.1 h;obtain ⟨hi, rfl⟩ := List.getElem?_eq_some_iff.1 ha;obtain ⟨hj, rfl⟩ := List.getElem?_eq_some_iff.1 hb
 rcases Nat.lt_or_gt_of_ne hne with hlt | hgt
 ·exact fun e => hp i j (by rw [List.length_map]; exact hi) (by rw [List.length_map]; exact hj) hlt (by rw [List.getElem_map, List.getElem_map]; exact e)
 ·exact fun e => hp j i (by rw [List.length_map]; exact hj) (by rw [List.length_map]; exact hi) hgt (by rw [List.getElem_map, List.getElem_map]; exact e.symm)
theorem apart_ne {l : List Zm} (h : l.Pairwise fun a b => ∀ k, a.vn.ownBlock = some k → b.vn.ownBlock ≠ some k) {i j : Nat} {a b : Zm} (ha : l[i]? = some a) (hb : l[j]? = some b) (hne : i ≠ j) : ∀ k, a.vn.ownBlock = some k → b.vn.ownBlock ≠ some k := by
 have hp := List.pairwise_iff_getElem.1 h;obtain ⟨hi, rfl⟩ := List.getElem?_eq_some_iff.1 ha;obtain ⟨hj, rfl⟩ := List.getElem?_eq_some_iff.1 hb
 rcases Nat.lt_or_gt_of_ne hne with hlt | hgt
 ·exact hp i j hi hj hlt
 ·exact fun k h1 h2 => hp j i hj hi hgt k h2 h1
theorem SB.put (h : SB w B v M) {i : Nat} {m m' : Zm} (hm : M[i]? = some m) (j : Nat) (u : Value) (hg : m'.g = m.g) (hv : m'.vn = m.vn) (hok : okZ (w.setCell ⟨m.g, j, none⟩ u) B m') : SB (w.setCell ⟨m.g, j, none⟩ u) B v (M.set i m') where
 row := by
  rw [map_set M i m' hm hg]
  exact Kd.R_set h.row (h.at hm).blk (by decide) j u
 ok := fun x hx => by
  obtain ⟨q, hq⟩ := List.getElem?_of_mem hx
  rw [List.getElem?_set] at hq
  split at hq
  ·rename_i e
   split at hq
   ·cases hq
    exact hok
   ·cases hq
  ·rename_i e
   exact (h.at hq).set (h.at hm).blk (ne_of_nodup h.nodup hq hm fun e2 => e e2.symm)
 nodup := by
  rw [map_set M i m' hm hg]
  exact h.nodup
 apart := List.pairwise_iff_getElem.2 fun a b ha hb hab => by
  have hp := List.pairwise_iff_getElem.1 h.apart
  rw [List.length_set] at ha hb
  have e : ∀ q (hq : q < M.length), ((M.set i m')[q]'(by rw [List.length_set]; exact hq)).vn = M[q].vn := fun q hq => by
   rw [List.getElem_set]
   split
   ·rename_i e
    subst e
    rw [hv]
    obtain ⟨_, e2⟩ := List.getElem?_eq_some_iff.1 hm
    rw [e2]
   ·rfl
  rw [e a ha, e b hb]
  exact hp a b ha hb hab
theorem SB.read (h : SB w B v M) : ∃ A c, v = .slice A M.length c ∧ M.length ≤ c ∧ StC w A (M.map Zm.z) ∧ ∀ (i : Nat) (m : Zm), M[i]? = some m → ∃ ad, A = some ad ∧ w.cell? (ad.add i) = some (.pointer (some ⟨m.g, 0, none⟩)) := by
 obtain ⟨A, c, hv, hc, hC⟩ := Kd.R_reads h.row
 rw [List.length_map] at hv hc hC
 have key : ∀ (i : Nat) (m : Zm), M[i]? = some m → ∃ ad, A = some ad ∧ w.cell? (ad.add i) = some (.pointer (some ⟨m.g, 0, none⟩)) := fun i m hm => by
  have hi := (List.getElem?_eq_some_iff.1 hm).1;obtain ⟨ad, c1, e1, hl1, hk1, hg1⟩ := Kd.C_get hC 0 (i : Int) (by omega) (by omega)
  refine ⟨ad, e1, ?_⟩
  have h0 : c1 = [.pointer (some ⟨(M.map Zm.g).getD i 0, 0, none⟩)] := by simpa [ptK, Kd.scalar] using hk1
  subst h0;have := hg1 0 _ rfl
  rw [Int.toNat_natCast] at this
  simp only [ptK, Kd.scalar, Nat.mul_one, Nat.add_zero] at this
  rw [this, List.getD_eq_getElem?_getD, List.getElem?_map, hm]
  rfl
 refine ⟨A, c, hv, hc, ⟨fun i z hz => ?_⟩, key⟩
 rw [List.getElem?_map] at hz
 obtain ⟨m, hm, rfl⟩ := Option.map_eq_some_iff.1 hz;have hk := h.at hm;obtain ⟨ad, e1, h2⟩ := key i m hm;obtain ⟨Ag, cg, eg, hlg, hCg⟩ := Kd.R_reads hk.grid;obtain ⟨An, cn, en, hln, hCn⟩ := Kd.R_reads hk.next
 exact ⟨ad, m.g, Ag, An, cg, cn, e1, h2, by rw [← eg, ← en]; exact hk.blk, ⟨hlg, hCg⟩, hln, hCn⟩
theorem SB.grow (h : SB w B v M) {i : Nat} (hm : M[i]? = some m) {v1 : Value} {ys : List Int} (hg : w.grownBy w1 m.vn.ownBlock) (hat : v1.ownBlock = m.vn.ownBlock ∨ ∃ b, v1.ownBlock = some b ∧ w.heap.size ≤ b) (hr : Kd.R (Kd.int .i64) 3 w1 B (fun _ => True) v1 ys) :
  SB (w1.setCell ⟨m.g, 8, none⟩ v1) B v (M.set i { m with vn := v1, z := { m.z with next := ys } }) := by
 have hk := h.at hm;have hb1 : w1.heap[m.g]? = some (.cells (zCells m.z m.vg m.vn) 41 (0, 0)) := blk_grown hk.blk hg (Kd.R_ne hk.next hk.blk (by decide));have hrow : Kd.R ptK 34 w1 B (fun _ => True) v (M.map Zm.g) := R_all (Kd.R_grown (Kd.R_tight rfl h.row) hg fun k hk2 => own_type h.row hk.next (by decide) k hk2.symm)
 refine ⟨?_, fun x hx => ?_, ?_, ?_⟩
 ·rw [map_set M i { m with vn := v1, z := { m.z with next := ys } } hm rfl]
  exact Kd.R_set hrow hb1 (by decide) 8 v1
 ·obtain ⟨q, hq⟩ := List.getElem?_of_mem hx
  rw [List.getElem?_set] at hq
  split at hq
  ·split at hq
   ·cases hq
    exact ⟨hk.base, blk_put hb1 8 v1 rfl, Kd.R_set (R_all (Kd.R_grown (Kd.R_tight rfl hk.grid) hg fun k hk2 => own_type hk.grid hk.next (by decide) k hk2.symm)) hb1 (by decide) 8 v1, Kd.R_set hr hb1 (by decide) 8 v1⟩
   ·cases hq
  ·rename_i e
   have hq2 := h.at hq
   exact (hq2.turn hg (Kd.R_ne hk.next hq2.blk (by decide)) (own_type hq2.grid hk.next (by decide)) fun k h1 h2 => apart_ne h.apart hq hm (fun e2 => e e2.symm) k h1 h2.symm).set hb1 (ne_of_nodup h.nodup hq hm fun e2 => e e2.symm)
 ·rw [map_set M i { m with vn := v1, z := { m.z with next := ys } } hm rfl]
  exact h.nodup
 ·have key : ∀ (q : Nat) (x : Zm), M[q]? = some x → q ≠ i → ∀ k, v1.ownBlock = some k → x.vn.ownBlock ≠ some k := fun q x hq hne k h1 h2 => by
   rcases hat with e | ⟨b, e, hle⟩
   ·rw [e] at h1
    exact apart_ne h.apart hm hq (fun e2 => hne e2.symm) k h1 h2
   ·rw [e] at h1
    cases h1
    have := Kd.R_lt (h.at hq).next _ h2
    omega
  refine List.pairwise_iff_getElem.2 fun a b ha hb hab k h1 h2 => ?_
  have hp := List.pairwise_iff_getElem.1 h.apart
  rw [List.length_set] at ha hb
  rw [List.getElem_set] at h1 h2
  split at h1
  ·rename_i e
   subst e
   rw [if_neg (by omega)] at h2
   exact key b _ (List.getElem?_eq_getElem hb) (by omega) k h1 h2
  ·split at h2
   ·rename_i e2
    subst e2
    exact key a _ (List.getElem?_eq_getElem ha) (by omega) k h2 h1
   ·exact hp a b ha hb hab k h1 h2
theorem SB.add (h : SB w B v M) (hm : okZ w B m) (hn : ∀ x ∈ M, x.g ≠ m.g) (h0 : m.vn.ownBlock = none) {v1 : Value} (hg : w.grownBy w1 v.ownBlock) (hr : Kd.R ptK 34 w1 B (fun _ => True) v1 ((M ++ [m]).map Zm.g)) : SB w1 B v1 (M ++ [m]) where
 row := hr
 ok := fun x hx => by
  have hx2 : okZ w B x := by
   rcases List.mem_append.1 hx with hx | hx
   ·exact h.ok x hx
   ·rw [List.mem_singleton.1 hx]
    exact hm
  exact hx2.turn hg (Kd.R_ne h.row hx2.blk (by decide)) (own_type hx2.grid h.row (by decide)) (own_type hx2.next h.row (by decide))
 nodup := by
  rw [List.map_append, List.nodup_append]
  refine ⟨h.nodup, by simp, fun a ha b hb e => ?_⟩
  simp at hb
  obtain ⟨x, hx, rfl⟩ := List.mem_map.1 ha
  exact hn x hx (e.trans hb)
 apart := by
  rw [List.pairwise_append]
  refine ⟨h.apart, List.pairwise_singleton _ _, fun a _ b hb k h1 h2 => ?_⟩
  rw [List.mem_singleton.1 hb, h0] at h2
  cases h2
end
end Go.Proofs.YtchjgphnglklcaaGreatDoor.Q
end
section
namespace Go.Proofs.YtchjgphnglklcaaGreatDoor.Q
set_option linter.unusedSectionVars false
open Go.RowKit Go.Proofs.YtchjgphnglklcaaGreatDoorW.PrintWords Go.Proofs.YtchjgphnglklcaaGreatDoorW.PrintLast Go.Proofs.YtchjgphnglklcaaGreatDoorW.PrintMore
theorem keyS : Maps.Keyed Tryz.prog 9 := Maps.string_keyed Tryz.underlying9
structure HoldsS (D : DataW Unit) (f : List UInt8 → Option Int) : Prop where
 map : Maps.IsMap D
 at' : ∀ (x : List UInt8) (z : DataW Unit), D.atKey (.string x) z = match f x with | some c => .lit (lk c) | none => z
 has' : ∀ x : List UInt8, Maps.has D (.string x) = (f x).isSome
theorem HoldsS.made : HoldsS (.map []) fun _ => none := ⟨Maps.isMap_empty, fun _ _ => rfl, fun _ => rfl⟩
def updS (f : List UInt8 → Option Int) (k : List UInt8) (v : Int) : List UInt8 → Option Int := fun x => if x = k then some v else f x
theorem HoldsS.put {D : DataW Unit} {f : List UInt8 → Option Int} (h : HoldsS D f) (k : List UInt8) (v : Int) : HoldsS (D.put (.string k) (.lit (lk v))) (updS f k v) := by
 have hk : WideAt.IsKeyLit (.string k) := by simp [WideAt.IsKeyLit]
 refine ⟨h.map.put _ _, fun x z => ?_, fun x => ?_⟩
 ·unfold updS
  by_cases e : x = k
  ·rw [if_pos e, e, Maps.atKey_put_same h.map hk]
  ·rw [if_neg e, Maps.atKey_put_other (fun e2 => e (by injection e2)), h.at']
 ·unfold updS
  by_cases e : x = k
  ·rw [if_pos e, e, Maps.has_put_same h.map hk]
   rfl
  ·rw [if_neg e, Maps.has_put_other (fun e2 => e (by injection e2)), h.has']
def MPS (w : World) (b n : Nat) (f : List UInt8 → Option Int) : Prop := ∃ D : DataW Unit, w.ownsMap Tryz.prog 9 PE b n D ∧ HoldsS D f
theorem MPS.made (w : World) : MPS (w.alloc (.map #[] 0)) w.heap.size 0 fun _ => none := ⟨_, World.ownsMap_made w _ _ _, HoldsS.made⟩
theorem MPS.lt {w : World} {b n : Nat} {f : List UInt8 → Option Int} (h : MPS w b n f) : b < w.heap.size := by
 obtain ⟨D, h1, _⟩ := h
 exact h1.lt
theorem MPS.kept {w w' : World} {b n : Nat} {f : List UInt8 → Option Int} {row : Option Nat} (h : MPS w b n f) (hg : w.grownBy w' row) (hne : some b ≠ row) : MPS w' b n f := by
 obtain ⟨D, h1, h2⟩ := h
 exact ⟨D, h1.kept hg hne, h2⟩
theorem MPS.below {w w' : World} {b n : Nat} {f : List UInt8 → Option Int} (h : MPS w b n f) (hb : Below w.heap.size w w') : MPS w' b n f := h.kept (grown_of_below hb none) (by simp)
theorem MPS.set {w : World} {b n g : Nat} {f : List UInt8 → Option Int} (h : MPS w b n f) (hne : b ≠ g) (i : Nat) (v : Value) : MPS (w.setCell ⟨g, i, none⟩ v) b n f := by
 obtain ⟨D, ⟨es, clock, hb, r⟩, h2⟩ := h
 refine ⟨D, ⟨es, clock, ?_, r⟩, h2⟩
 rw [← hb]
 exact Below.heap_setCell w ⟨g, i, none⟩ v b hne
theorem MPS.nc {w : World} {b n : Nat} {f : List UInt8 → Option Int} (h : MPS w b n f) : NC w b := by
 obtain ⟨D, ⟨es, clock, hb, _⟩, _⟩ := h;intro c q z e
 rw [hb] at e
 cases e
theorem zeroIS (w : World) : (zeroValue 3).run Tryz.prog w = .ok (.int .i64 0) w := by kernel_rfl
theorem wpList_puts {P : Program} {ops : Array Oper} {rest : List Oper} {o : Oper} {a : Act} {Q : Exit → Act → World → Prop} (hP : P = Tryz.prog) (w : World) (hg : o.guard = none) (m x v : Operand) (t : TypeId) (hop : o.op = .mapUpdate t m x v) (ht : Tryz.prog.underlying t = some (.map 9 3))
  (b n : Nat) (f : List UInt8 → Option Int) (h : MPS w b n f) (hn : n < 1000000) (kx : ByteArray) (c : Int) (hm : a.eval m = .map (some b)) (hx : a.eval x = .string kx) (hv : a.eval v = .int .i64 c) (hb : kx.size ≤ maxLen ∧ 0 ≤ c ∧ c ≤ 1000000)
  (hK : ∀ w', MPS w' b (n + 1) (updS f kx.data.toList c) → w.grownBy w' (some b) → wpList P ops Q rest (a.put o.dst undef) w') : wpList P ops Q (o :: rest) a w := by
 subst hP;obtain ⟨D, hown, hh⟩ := h
 exact wpList_mapUpdate_own w hg m x v t hop 9 3 keyS ht PE b n D hm hown (by unfold maxLen; omega) _ _ (.string kx.data.toList) hx hv (Go.WideMaps.keyOf_string_mk Tryz.underlying9 hb.1) (.lit (lk c)) [] (pe_int (lk_wf hb.2.1 hb.2.2)) fun w' h1 h2 => hK w' ⟨_, h1, hh.put kx.data.toList c⟩ h2
theorem wpList_looks {P : Program} {ops : Array Oper} {rest : List Oper} {o : Oper} {a : Act} {Q : Exit → Act → World → Prop} (hP : P = Tryz.prog) (w : World) (hg : o.guard = none) (m x : Operand) (t : TypeId) (hop : o.op = .lookup t m x true) (ht : Tryz.prog.underlying t = some (.map 9 3))
  (b n : Nat) (f : List UInt8 → Option Int) (h : MPS w b n f) (kx : ByteArray) (hm : a.eval m = .map (some b)) (hx : a.eval x = .string kx) (hb : kx.size ≤ maxLen)
  (hK : wpList P ops Q rest (a.put o.dst (.tuple #[.int .i64 ((f kx.data.toList).getD 0), .bool (f kx.data.toList).isSome])) w) : wpList P ops Q (o :: rest) a w := by
 subst hP;obtain ⟨D, hown, hh⟩ := h
 refine wpList_lookup_own_ok_int w hg m x t hop 9 3 .i64 keyS ht Tryz.underlying3 (zeroIS w) b n D hm hown _ (.string kx.data.toList) hx (Go.WideMaps.keyOf_string_mk Tryz.underlying9 hb) fun c hat _ => ?_
 have hc : c = (f kx.data.toList).getD 0 := by
  rw [hh.at'] at hat
  cases e : f kx.data.toList with
  | none =>
   rw [e] at hat
   exact (congrArg (fun d : DataW Unit => match d with | .lit (.int _ c) => c | _ => 0) hat).symm
  | some c' =>
   rw [e] at hat
   exact (congrArg (fun d : DataW Unit => match d with | .lit (.int _ c) => c | _ => 0) hat).symm
 rw [hc, hh.has']
 exact hK
end Go.Proofs.YtchjgphnglklcaaGreatDoor.Q
end
section
namespace Go.Proofs.YtchjgphnglklcaaGreatDoor.Q
open Go.RowKit Go.Shelf Go.Proofs.YtchjgphnglklcaaGreatDoorW.PrintWords Go.Proofs.YtchjgphnglklcaaGreatDoorW.PrintLast Go.Proofs.YtchjgphnglklcaaGreatDoorW.PrintMore
attribute [local go_sem] Oper.semAt_some
def Kp2 (s3 s4 : Nat) (W W' : World) : Prop := W'.heap[s3]? = W.heap[s3]? ∧ W'.heap[s4]? = W.heap[s4]?
theorem Kp2.trans {s3 s4 : Nat} {A B C : World} (h : Kp2 s3 s4 A B) (k : Kp2 s3 s4 B C) : Kp2 s3 s4 A C := ⟨k.1.trans h.1, k.2.trans h.2⟩
theorem Kp2.refl {s3 s4 : Nat} {A : World} : Kp2 s3 s4 A A := ⟨rfl, rfl⟩
theorem range_snoc (k : Nat) : List.range (k + 1) = List.range k ++ [k] := List.range_succ
set_option maxRecDepth 100000 in
set_option maxHeartbeats 4000000 in
theorem chunk1_in (F : Fence) (n : Nat) (hf : F.fn 79) (hro : F.round = none) (hn : 1 ≤ n) (l Bs Bn b off len cap c m : Nat) (hc1 : 1 ≤ c) (hlen : len = m * c) (hsm : len ≤ 1000) (hcap : len ≤ cap) (J Jx : List Nat → World → Prop)
  (hJd : ∀ s W, J s W → J s W.drew)
  (hY : ∀ pre x W, J pre W → x < m → pre.length < m → YieldAt F (n - 1) Tryz.prog l #[.slice (some ⟨b, off + x * c, none⟩) c c] W fun e W' =>
   (e = .returned (.bool true) ∧ J (pre ++ [x]) W' ∧ Kp2 Bs Bn W W') ∨ (e = .returned (.bool false) ∧ Jx (pre ++ [x]) W'))
  (W : World) (hBs : W.heap[Bs]? = some (.cells #[.slice (some ⟨b, off, none⟩) len cap] 36 (0, 0))) (hBn : W.heap[Bn]? = some (.cells #[.int .i64 c] 3 (0, 0))) (h0 : J [] W) :
  CallsIn F n Tryz.prog 79 #[.func (.yield l) #[] #[], .pointer (some ⟨Bs, 0, none⟩), .pointer (some ⟨Bn, 0, none⟩)] W fun e W' => (∃ v, e = .returned v) ∧
   ((∃ ys, ys = List.range m ∧ J ys W') ∨ (∃ pre, (∃ k, k ≤ m ∧ pre = List.range k) ∧ Jx pre W')) := by
 refine callsIn_of_wp Tryz.func79 rfl hf ?_ hro
 simp only [Tryz.ntmps79, List.size_toArray, List.length_cons, List.length_nil, Nat.reduceAdd, Nat.reduceSub, Array.replicate_succ, Array.replicate_zero, List.push_toArray, List.append_toArray, List.nil_append, List.cons_append]
 gi_wp2
 have HL := Aside0.mk hlen;clear hlen
 gi_loopw [4] (fun i wr => ∃ k q : Nat, Aside0 (k ≤ m ∧ q = k * c) ∧ i = .int .i64 (q : Int) ∧ J (List.range k) wr ∧ Kp2 Bs Bn W wr)
  (fun i _ => len - (intOf i).toNat)
 case atStart => exact ⟨0, 0, ⟨Nat.zero_le _, by simp⟩, by simp, h0, Kp2.refl⟩
 case round =>
  obtain ⟨k, q, HK, rfl, hJs, hnx⟩ := hrel;have hs := hnx.1.trans hBs;have hnn := hnx.2.trans hBn;have cs : wr.cell? ⟨Bs, 0, none⟩ = some (.slice (some ⟨b, off, none⟩) len cap) := (blk_cell hs 0).trans rfl;have cn : wr.cell? ⟨Bn, 0, none⟩ = some (.int .i64 c) := (blk_cell hnn 0).trans rfl
  by_cases hlt : k < m
  ·have hkc : q + c ≤ len := by rw [HL.out, HK.out.2, ← Nat.succ_mul]; exact Nat.mul_le_mul_right c hlt
   have c1 : decide ((q : Int) < (len : Int)) = true := decide_eq_true (by omega)
   have hmx : Tryz.prog.follows .mixedOrders = true := by kernel_rfl
   obtain ⟨fn, tmps, assign, body, hy, hR⟩ := hY _ k wr.drew (hJd _ _ hJs) hlt (by rw [List.length_range]; exact hlt)
   rw [← HK.out.2] at hy
   have hm1 : min (c : Int) ((len - q : Nat) : Int) = (c : Int) := by omega
   have hm2 : ((q : Int) + (c : Int)).toNat - q = c := by omega
   have hm3 : cap ≠ q := by omega
   have HKC := Aside0.mk hkc;have HR := Aside0.mk hR;clear hs hnn hJs hkc hR hY
   gi_wp2
   gi_region
   all_goals gi_wp2
   all_goals (try go_bits)
   all_goals
    refine HR.out.mono ?_
    rintro e W3 (⟨rfl, hJ3, hk3⟩ | ⟨rfl, hJx3⟩)
    ·have hnx3 : Kp2 Bs Bn W W3 := hnx.trans hk3
     have cn3 : W3.cell? ⟨Bn, 0, none⟩ = some (.int .i64 c) := (blk_cell (hnx3.2.trans hBn) 0).trans rfl
     gi_wp2
     go_roundw
     case rel => exact ⟨k + 1, q + c, ⟨by omega, by rw [HK.out.2, Nat.succ_mul]⟩, by simp, by rw [range_snoc]; exact hJ3, hnx3⟩
     case measure =>
      have := HKC.out
      simp [intOf]
      omega
    ·gi_wp2
     refine bodyPost_ret (results_none rfl _ _ _) rfl ?_
     exact ⟨⟨_, rfl⟩, .inr ⟨_, ⟨k + 1, by omega, (range_snoc k).symm⟩, hJx3⟩⟩
  ·have hkm : k = m := by have := HK.out.1; omega
   subst hkm
   have hql : q = len := by rw [HL.out, HK.out.2]
   subst hql;have c1 : decide ((q : Int) < (q : Int)) = false := decide_eq_false (by omega)
   gi_wp2
   go_end0
   exact ⟨⟨_, rfl⟩, .inl ⟨_, rfl, hJs⟩⟩
end Go.Proofs.YtchjgphnglklcaaGreatDoor.Q
end
section
namespace Go.Proofs.YtchjgphnglklcaaGreatDoor.Q
open Go.RowKit Go.Shelf Go.Proofs.YtchjgphnglklcaaGreatDoorW.PrintWords Go.Proofs.YtchjgphnglklcaaGreatDoorW.PrintLast Go.Proofs.YtchjgphnglklcaaGreatDoorW.PrintMore
attribute [local go_sem] Oper.semAt_some
set_option maxRecDepth 100000 in
set_option maxHeartbeats 4000000 in
theorem chunk_in (F : Fence) (n : Nat) (hf : F.fn 57) (hro : F.round = none) (A : Option Addr) (len cap : Nat) (c : Int) (hc : 1 ≤ c) (w : World) :
  CallsIn F n Tryz.prog 57 #[.slice A len cap, .int .i64 c] w fun e w' => e = .returned (.func (.func 79) #[] #[.pointer (some ⟨w.heap.size, 0, none⟩), .pointer (some ⟨w.heap.size + 1, 0, none⟩)]) ∧
   w' = (w.alloc (.cells #[.slice A len cap] 36)).alloc (.cells #[.int .i64 c] 3) := by
 refine callsIn_of_wp Tryz.func57 rfl hf ?_ hro
 simp only [Tryz.ntmps57, List.size_toArray, List.length_cons, List.length_nil, Nat.reduceAdd, Nat.reduceSub, Array.replicate_succ, Array.replicate_zero, List.push_toArray, List.append_toArray, List.nil_append, List.cons_append]
 have c1 : decide (c < 1) = false := decide_eq_false (by omega)
 gi_wp2
 go_ret
 exact ⟨rfl, rfl⟩
theorem chunk_stops (F : Fence) (n : Nat) (hf : F.fn 79) (hro : F.round = none) (hn : 1 ≤ n) (Bs Bn b off len cap c m : Nat) (hc1 : 1 ≤ c) (hlen : len = m * c) (hsm : len ≤ 1000) (hcap : len ≤ cap) (w : World)
  (hBs : w.heap[Bs]? = some (.cells #[.slice (some ⟨b, off, none⟩) len cap] 36 (0, 0))) (hBn : w.heap[Bn]? = some (.cells #[.int .i64 c] 3 (0, 0))) :
  SeqStopsK F n Tryz.prog 79 #[.pointer (some ⟨Bs, 0, none⟩), .pointer (some ⟨Bn, 0, none⟩)] (fun x : Fin m => #[Value.slice (some ⟨b, off + x.val * c, none⟩) c c]) (Kp2 Bs Bn) (fun ys => ys.map Fin.val = List.range m) (fun _ => True) m w := fun l J Jx W hW hJ _ hY h0 => by
 refine (chunk1_in F n hf hro hn l Bs Bn b off len cap c m hc1 hlen hsm hcap (fun pre W => ∃ ys : List (Fin m), ys.map Fin.val = pre ∧ J ys W) (fun pre W => ∃ ys : List (Fin m), Jx ys W) ?_ ?_ W ((hW.block Bs (blk_lt hBs)).trans hBs) ((hW.block Bn (blk_lt hBn)).trans hBn) ⟨[], rfl, h0⟩).mono ?_
 ·rintro s W1 ⟨ys, e, hs⟩
  exact ⟨ys, e, hJ ys W1 W1.drew none hs ⟨rfl, rfl, rfl, Nat.le_refl _, fun _ _ _ => rfl⟩ (fun r e => by cases e)⟩
 ·rintro pre x W1 ⟨ys, rfl, hs⟩ hx hl
  obtain ⟨fn, tmps, assign, body, hy, hR⟩ := hY ys ⟨x, hx⟩ W1 hs (by rw [List.length_map] at hl; exact hl)
  refine ⟨fn, tmps, assign, body, hy, hR.mono ?_⟩
  rintro e W' (⟨rfl, h1, h2⟩ | ⟨rfl, h1⟩)
  ·exact .inl ⟨rfl, ⟨_, by rw [List.map_append]; rfl, h1⟩, h2⟩
  ·exact .inr ⟨rfl, _, h1⟩
 ·rintro e W' ⟨he, ⟨ys, rfl, zs, e2, hj⟩ | ⟨pre, _, zs, hj⟩⟩
  ·exact ⟨he, .inl ⟨zs, e2, hj⟩⟩
  ·exact ⟨he, .inr ⟨zs, trivial, hj⟩⟩
def rowS (l : List Int) (c k : Nat) : ByteArray := strOfNums ((l.drop (k * c)).take c)
def impl_tray_text.f (w h : Int) (l : List Int) : Option ByteArray :=
 if 1 ≤ w ∧ 1 ≤ l.length ∧ l.length ≤ 1000 ∧ l.length = l.length / w.toNat * w.toNat then strings_Join.f ((List.range (l.length / w.toNat)).map (rowS l w.toNat)) ⟨#[47]⟩ else none
theorem row_len (l : List Int) (c k m : Nat) (hl : l.length = m * c) (hk : k < m) : ((l.drop (k * c)).take c).length = c := by
 rw [List.length_take, List.length_drop, hl]
 have : k * c + c ≤ m * c := by rw [← Nat.succ_mul]; exact Nat.mul_le_mul_right c hk
 omega
theorem row_at (l : List Int) (c k i : Nat) (hi : i < c) : ((l.drop (k * c)).take c).getD i 0 = l.getD (k * c + i) 0 := by
 rw [List.getD_eq_getElem?_getD, List.getElem?_take, if_pos hi, List.getElem?_drop, List.getD_eq_getElem?_getD]
theorem five {w X : World} {A B C D E : Obj} (h : X = ((((w.alloc A).alloc B).alloc C).alloc D).alloc E) : X.heap.size = w.heap.size + 5 ∧ Below w.heap.size w X ∧ X.heap[w.heap.size]? = some A ∧ X.heap[w.heap.size + 1]? = some B ∧ X.heap[w.heap.size + 1 + 1]? = some C ∧ X.heap[w.heap.size + 1 + 1 + 1]? = some D ∧ X.heap[w.heap.size + 1 + 1 + 1 + 1]? = some E := by
 subst h
 have g1 : ∀ (W : World) (o : Obj) (i : Nat) (x : Obj), W.heap[i]? = some x → (W.alloc o).heap[i]? = some x := fun W o i x hx => (Below.heap_alloc W o i (blk_lt hx)).trans hx
 have n1 := World.alloc_heap_new w A;have n2 := World.alloc_heap_new (w.alloc A) B;have n3 := World.alloc_heap_new ((w.alloc A).alloc B) C;have n4 := World.alloc_heap_new (((w.alloc A).alloc B).alloc C) D;have n5 := World.alloc_heap_new ((((w.alloc A).alloc B).alloc C).alloc D) E
 simp only [World.size_alloc] at n2 n3 n4 n5
 exact ⟨by simp only [World.size_alloc], ((((((Below.refl _ w).alloc (Nat.le_refl _) _).alloc (by simp only [World.size_alloc]; omega) _).alloc (by simp only [World.size_alloc]; omega) _).alloc (by simp only [World.size_alloc]; omega) _).alloc (by simp only [World.size_alloc]; omega) _), g1 _ _ _ _ (g1 _ _ _ _ (g1 _ _ _ _ (g1 _ _ _ _ n1))), g1 _ _ _ _ (g1 _ _ _ _ (g1 _ _ _ _ n2)), g1 _ _ _ _ (g1 _ _ _ _ n3), g1 _ _ _ _ n4, n5⟩
set_option maxRecDepth 100000 in
set_option maxHeartbeats 8000000 in
theorem text_in (n : Nat) (hn : 3 ≤ n) (a0_0 a0_1 : Int) (b off cap : Nat) (l : List Int) (c m : Nat) (r : ByteArray) (w : World) (hb : b < w.heap.size) (hcell : ∀ j, j < l.length → w.cell? ⟨b, off + j, none⟩ = some (.int .u8 (l.getD j 0))) (hcap : l.length ≤ cap) (hc1 : 1 ≤ c) (h00 : a0_0 = c) (hl : l.length = m * c) (hsm : l.length ≤ 1000)
  (hj : strings_Join.f ((List.range m).map (rowS l c)) ⟨#[47]⟩ = some r) :
  CallsIn Fence.wide n Tryz.prog 41 #[.agg #[.int .i64 a0_0, .int .i64 a0_1, .slice (some ⟨b, off, none⟩) l.length cap]] w fun e w' => e = .returned (.string r) ∧ Below w.heap.size w w' := by
 have hro : Fence.wide.round = none := rfl
 have h1 : 1 ≤ n := by omega
 refine callsIn_of_wp_marks Tryz.func41 rfl trivial ?_ hro
 simp only [Tryz.ntmps41, List.size_toArray, List.length_cons, List.length_nil, Nat.reduceAdd, Nat.reduceSub, Array.replicate_succ, Array.replicate_zero, List.push_toArray, List.append_toArray, List.nil_append, List.cons_append]
 have hu := Tryz.underlying64;subst h00;have HL := Aside0.mk hl;have HCL := Aside0.mk hcell;have HJ := Aside0.mk hj;clear hl hcell hj
 gi_wp2_with (refine ⟨trivial, ?_⟩; gi_at_call 57; refine (chunk_in Fence.wide (n - 1) trivial hro _ _ _ _ (by omega) _).mono ?_; rintro e w' ⟨he, hw⟩; simp only [World.size_alloc] at he; subst he; (have HW := Aside0.mk hw); clear hw)
 obtain ⟨hsz, hB0, bA, bB, bC, bD, bE⟩ := five HW.out;clear HW
 have hI : OwnFrom w'.heap.size (fun (pre : List (Fin m)) W => (∃ v, Boxed W (w.heap.size + 1 + 1) 43 v ∧ W.ownsRow w.heap.size 9 1 v pre.length (pre.map fun k => Value.string (rowS l c k.val)) ∧ True) ∧ (Boxed W (w.heap.size + 1 + 1 + 1) 36 (.slice (some ⟨b, off, none⟩) l.length cap) ∧ Boxed W (w.heap.size + 1 + 1 + 1 + 1) 3 (.int .i64 c)) ∧ Below w.heap.size w W) :=
  OwnFrom.and (Own.from (holdsRow_own w.heap.size (w.heap.size + 1 + 1) 43 9 1 (fun pre : List (Fin m) => pre.length) (fun pre => pre.map fun k => Value.string (rowS l c k.val)) (fun _ _ => True)) _)
   (OwnFrom.and (OwnFrom.and (Own.from (boxed_own (w.heap.size + 1 + 1 + 1) 36 (fun _ : List (Fin m) => Value.slice (some ⟨b, off, none⟩) l.length cap)) _) (Own.from (boxed_own (w.heap.size + 1 + 1 + 1 + 1) 3 (fun _ : List (Fin m) => Value.int .i64 c)) _)) (ownFrom_below (Nat.le_refl _) (by omega)))
 have row0 : w'.ownsRow w.heap.size 9 1 (.slice (some ⟨w.heap.size + 1, 0, none⟩) 0 0) 0 [] := ⟨rfl, .inr ⟨w.heap.size + 1, 0, #[], rfl, by omega, bB, Nat.le_refl _, Nat.zero_le _, rfl, rfl⟩⟩
 refine wpIn_rangeFunc_ownG hro h1 (gf := 79) (lb := #[.pointer (some ⟨w.heap.size + 1 + 1 + 1, 0, none⟩), .pointer (some ⟨w.heap.size + 1 + 1 + 1 + 1, 0, none⟩)]) rfl trivial (enters_of Tryz.func79 (by kernel_rfl) rfl)
  (chunk_stops Fence.wide (n - 1) trivial hro (by omega) _ _ b off l.length cap c m hc1 HL.out hsm hcap w' bD bE) Kp2.trans (fun W i o o' hi _ _ _ => ⟨World.putObj_heap_other (fun e => by omega), World.putObj_heap_other (fun e => by omega)⟩) (Below.refl _ _) (fun _ => rfl)
  _ (fun _ _ _ => False) hI (fun _ _ _ _ _ hs _ _ => hs) ⟨⟨_, bC, row0, trivial⟩, ⟨bD, bE⟩, hB0⟩
  (fun x => { tmps := #[.agg #[.int .i64 c, .int .i64 a0_1, .slice (some ⟨b, off, none⟩) l.length cap], .pointer (some ⟨w.heap.size, 0, none⟩), .string ⟨#[]⟩, .pointer (some ⟨w.heap.size + 1 + 1, 0, none⟩), .slice (some ⟨b, off + x.val * c, none⟩) c c, .slice (some ⟨w.heap.size + 1, 0, none⟩) 0 0, .pointer (some ⟨w.heap.size, 2, none⟩), .slice (some ⟨b, off, none⟩) l.length cap, .pointer (some ⟨w.heap.size, 0, none⟩), .int .i64 c, .func (.func 79) #[] #[.pointer (some ⟨w.heap.size + 1 + 1 + 1, 0, none⟩), .pointer (some ⟨w.heap.size + 1 + 1 + 1 + 1, 0, none⟩)], .slice (some ⟨b, off + x.val * c, none⟩) c c, undef, undef, undef, undef, undef, undef, undef], defers := [] }) ?assign ?body ?done ?stop
 case assign =>
  intro i x W K hK
  gi_wp2
  exact hK
 case body =>
  rintro i pre x W ⟨⟨v, hv, hrow, _⟩, ⟨hD, hE⟩, hB⟩ hlt
  have hc := hv.cell;have hrl := row_len l c x.val m HL.out x.isLt
  have hcv := run_convert_bytes_arg (P := Tryz.prog) W 36 5 Tryz.underlying36 Tryz.underlying5 b (off + x.val * c) c c ((l.drop (x.val * c)).take c) hrl (fun j hj => by
   rw [row_at l c x.val j hj, Nat.add_assoc]
   exact (hB.cell (p := ⟨b, off + (x.val * c + j), none⟩) hb).trans (HCL.out (x.val * c + j) (by
    rw [HL.out]
    have : x.val * c + c ≤ m * c := by rw [← Nat.succ_mul]; exact Nat.mul_le_mul_right c x.isLt
    omega))) 9 Tryz.underlying9
  rw [show strOfNums ((l.drop (x.val * c)).take c) = rowS l c x.val from rfl] at hcv
  obtain ⟨i0, hi, hz0, hz1, hz2⟩ := info_parts info9
  have hpl : pre.length + 1 ≤ 1000 := by
   have : m ≤ m * c := Nat.le_mul_of_pos_right m hc1;have := HL.out
   omega
  have HD := Aside0.mk hD;have HE := Aside0.mk hE;clear hD hE hrl
  gi_wp2_with (gi_at_builtin; refine wpListIn_append_own _ rfl _ _ 43 rfl w.heap.size 9 i0 (.string ⟨#[]⟩) 1 16 Tryz.underlying43 hi hz0 hz1 hz2 rfl (by decide) _ _ _ rfl (hrow.alloc _) ⟨W.heap.size, 0, none⟩ 1 1 [.string (rowS l c x.val)] rfl rfl (cell_one_new _ _ _) (by simp [Value.oneCell']) (by simp [maxLen]; omega) (by omega) (by have := hB.size; simp; omega) ?_; intro v' w1 hown' hgrow _; obtain ⟨g', cap', rfl⟩ := ownsRow_succ hown'; obtain ⟨hv1, hv2, hr2, hk2, hb2⟩ := hv.appended (by decide) hrow hB.size (by omega) hown' hgrow; have hc1 := hv1.cell; have hf1 := hv1.frozen)
  have hD2 := ((HD.out.alloc (.cells #[.string (rowS l c x.val)] 9)).kept hgrow (HD.out.not_row (by decide) hrow)).other (B' := w.heap.size + 1 + 1) (by omega) (.slice (some ⟨g', 0, none⟩) (pre.length + 1) cap');have hE2 := ((HE.out.alloc (.cells #[.string (rowS l c x.val)] 9)).kept hgrow (HE.out.not_row (by decide) hrow)).other (B' := w.heap.size + 1 + 1) (by omega) (.slice (some ⟨g', 0, none⟩) (pre.length + 1) cap')
  exact ⟨hk2.from _, ⟨hD2.trans HD.out.symm, hE2.trans HE.out.symm⟩, ⟨_, hv2, by simpa using hr2, trivial⟩, ⟨hD2, hE2⟩, hB.trans hb2⟩
 case done =>
  rintro D ys W hD hS ⟨⟨v, hv, hrow, _⟩, _, hB⟩ hK
  have hc := hv.cell
  have hrows : (ys.map fun k => Value.string (rowS l c k.val)) = ((List.range m).map (rowS l c)).map Value.string := by
   rw [← hS, List.map_map, List.map_map]
   rfl
  have hyl : ys.length = ((List.range m).map (rowS l c)).length := by
   have := congrArg List.length hS
   simpa using this
  rw [hrows, hyl] at hrow
  have hjn := HJ.out;generalize (List.range m).map (rowS l c) = L at hrow hjn;have HJ2 := Aside0.mk hjn;clear HJ hjn;have hR : Kd.R Kd.string 9 W w.heap.size (fun _ => True) v L := Kd.R_of_own (enc := Value.string) hrow (fun _ _ => trivial);obtain ⟨A, cp, rfl, hlc, hC⟩ := Kd.R_reads hR;have HK := Aside0.mk hK;have HB := Aside0.mk hB;have HCC := Aside0.mk hC;have HLC := Aside0.mk hlc;clear hrows hyl hrow hR hK hB hC hlc hv hS
  gi_wp2_with (refine ⟨trivial, ?_⟩; gi_at_call 54; refine (callsIn_wide.2 (strings_Join.calls A cp L ⟨#[47]⟩ r _ HCC.out HLC.out HJ2.out)).mono ?_; rintro e W2 ⟨rfl, hb2⟩)
  have hK2 := (hb2.block D (blk_lt HK.out)).trans HK.out
  refine ⟨by simp, .inl ⟨_, _, rfl, run_takeDeferred hK2, ?_⟩⟩
  exact ⟨_, results_tmp rfl _ _ _, rfl, (below_then HB.out HB.out.size hb2).trans (belowK_b (w := w) (Nat.le_refl _) W2 D _ _ (by omega) hK2 rfl rfl)⟩
 case stop =>
  rintro D c' pre W _ _ h _
  exact h.elim
theorem impl_tray_text.calls (a0_0 a0_1 : Int) (A0_2 : Option Addr) (c0_2 : Nat) (l0_2 : List Int) (r : ByteArray) (w : World) (hr0_2 : Kd.C (Kd.int .u8) w A0_2 l0_2.length l0_2) (hc0_2 : l0_2.length ≤ c0_2) (h : impl_tray_text.f a0_0 a0_1 l0_2 = some r) :
  Calls Tryz.prog 41 #[.agg #[.int .i64 a0_0, .int .i64 a0_1, .slice A0_2 l0_2.length c0_2]] w fun e w' => e = .returned (.string r) ∧ Below w.heap.size w w' := by
 unfold impl_tray_text.f at h
 split at h
 case isFalse => cases h
 rename_i hc
 obtain ⟨h1, h2, h3, h4⟩ := hc;obtain ⟨b, off, rfl, hb, hcell⟩ := bytes_at hr0_2 h2
 exact callsIn_wide.1 (text_in 3 (Nat.le_refl _) a0_0 a0_1 b off c0_2 l0_2 a0_0.toNat (l0_2.length / a0_0.toNat) r w hb hcell hc0_2 (by omega) (by omega) h4 h3 h)
end Go.Proofs.YtchjgphnglklcaaGreatDoor.Q
end
section
namespace Go.Proofs.YtchjgphnglklcaaGreatDoor.Q
set_option linter.unusedSectionVars false
open Go.RowKit Go.Proofs.YtchjgphnglklcaaGreatDoorW.PrintWords Go.Proofs.YtchjgphnglklcaaGreatDoorW.PrintLast Go.Proofs.YtchjgphnglklcaaGreatDoorW.PrintMore
def zPlace : List Zs → ByteArray → Nat → Int
 | [], _, _ => -1
 | z :: l, t, k => if z.text.toList = t.toList then (k : Int) else zPlace l t (k + 1)
def z0 : Zs := ⟨0, 0, [], ⟨#[]⟩, 0, 0, 0, 0, []⟩
def zAt (L : List Zs) (i : Nat) : Zs := L.getD i z0
def zWords (L : List Zs) (i j : Nat) : List Zs := if (zAt L j).far = wrap64 ((zAt L i).far + 1) then L.set j { zAt L j with words := wrap64 ((zAt L j).words + (zAt L i).words) } else L
def zNext (L : List Zs) (i j : Nat) : List Zs := L.set i { zAt L i with next := (zAt L i).next ++ [(j : Int)] }
def zTouch (L : List Zs) (i j : Nat) : List Zs := zNext (zWords L i j) i j
def zNew (o : Int × Int × List Int) (t : ByteArray) (far : Int) (i d : Nat) : Zs := ⟨o.1, o.2.1, o.2.2, t, wrap64 (far + 1), 0, i, d, []⟩
def reS (k : Nat) (K : List Zs → Option (List Zs × Bool)) (i : Nat) : Nat → Nat → List Zs → Option (List Zs × Bool)
 | 0, _, L => K L
 | m + 1, d, L => if (zAt L i).next.length ≤ 1000 then (spec_tiTilt.f k (zAt L i).w (zAt L i).h (zAt L i).cs d).bind fun o => (spec_tyText.f k o.1 o.2.1 o.2.2).bind fun t =>
  if zPlace L t 0 < 0 then (if L.length = 300 then some ([], false) else reS k K i m (d + 1) (zTouch (L ++ [zNew o t (zAt L i).far i d]) i L.length))
  else reS k K i m (d + 1) (zTouch L i (zPlace L t 0).toNat) else none
def reA (k : Nat) : Nat → Nat → List Zs → Option (List Zs × Bool)
 | 0, _, _ => none
 | m + 1, i, L => if i < L.length then reS k (fun L => reA k m (i + 1) L) i 4 0 L else some (L, true)
def spec_reAll.f (k : Nat) (t : ByteArray) : Option (List Zs × Bool) := (spec_tyRead.f k t).bind fun g => if g.2.2.2 = true then reA k 301 0 [⟨g.1, g.2.1, g.2.2.1, t, 0, 1, -1, 0, []⟩] else some ([], false)
abbrev ReR := List ByteArray × List Int × List (List Int) × List ByteArray × Bool
def reI (k : Nat) (K : List ByteArray → List Int → List ByteArray → (List UInt8 → Option Int) → List Int → Option ReR) (i : Nat) (w h : Int) (cs : List Int) : List Int → List ByteArray → List Int → List ByteArray → (List UInt8 → Option Int) → List Int → Option ReR
 | [], T, F, W, f, nx => K T F W f nx
 | d :: l, T, F, W, f, nx => (impl_tray_tilted.f k w h cs d).bind fun g => (impl_tray_text.f g.1 g.2.1 g.2.2).bind fun u => if u.size ≤ 1048576 ∧ (rdOf ByteArray.empty W (i : Int)).size ≤ 1000000 then (match f u.data.toList with
  | some c => reI k K i w h cs l T F W f (nx ++ [c])
  | none => if T.length = 300 then some ([], [], [], [], false) else reI k K i w h cs l (T ++ [u]) (F ++ [wrap64 (rd F (i : Int) + 1)]) (W ++ [rdOf ByteArray.empty W (i : Int) ++ strOfNums [d]]) (updS f u.data.toList (T.length : Int)) (nx ++ [(T.length : Int)])) else none
def reO (k : Nat) : Nat → Nat → List ByteArray → List Int → List (List Int) → List ByteArray → (List UInt8 → Option Int) → Option ReR
 | 0, _, _, _, _, _, _ => none
 | m + 1, i, T, F, N, W, f => if i < T.length then (impl_read.f (rdOf ByteArray.empty T (i : Int))).bind fun g => reI k (fun T F W f nx => reO k m (i + 1) T F (N ++ [nx]) W f) i g.1 g.2.1 g.2.2 [117, 114, 100, 108] T F W f [] else some (T, F, N, W, true)
def impl_reachOf.f (k : Nat) (t : ByteArray) : Option ReR := (impl_IsTray.f k t).bind fun b => if b = true then (if t.size ≤ 1048576 then reO k 301 0 [t] [0] [] [⟨#[]⟩] (updS (fun _ => none) t.data.toList 0) else none) else some ([], [], [], [], false)
end Go.Proofs.YtchjgphnglklcaaGreatDoor.Q
end
section
namespace Go.Proofs.YtchjgphnglklcaaGreatDoor.Q
set_option linter.unusedSectionVars false
open Go.RowKit Go.Proofs.YtchjgphnglklcaaGreatDoorW.PrintWords Go.Proofs.YtchjgphnglklcaaGreatDoorW.PrintLast Go.Proofs.YtchjgphnglklcaaGreatDoorW.PrintMore
theorem dcut : ∀ d : Fin 4, (⟨#[117, 114, 100, 108]⟩ : ByteArray).extract ((d.val : Int)).toNat (((d.val + 1 : Nat) : Int)).toNat = strOfNums [dirC d.val] := by decide
theorem son_append (a b : List Int) : strOfNums a ++ strOfNums b = strOfNums (a ++ b) := by
 apply ByteArray.ext
 apply Array.ext'
 simp [strOfNums, ByteArray.data_append]
theorem son_size (a : List Int) : (strOfNums a).size = a.length := by
 rw [← data_length]
 simp [strOfNums]
end Go.Proofs.YtchjgphnglklcaaGreatDoor.Q
end
section
namespace Go.Proofs.YtchjgphnglklcaaGreatDoor.Q
set_option linter.unusedSectionVars false
open Go.RowKit Go.Proofs.YtchjgphnglklcaaGreatDoorW.PrintWords Go.Proofs.YtchjgphnglklcaaGreatDoorW.PrintLast Go.Proofs.YtchjgphnglklcaaGreatDoorW.PrintMore
def idxS : List (List UInt8) → List UInt8 → Nat → Option Nat
 | [], _, _ => none
 | x :: l, t, i => if x = t then some i else idxS l t (i + 1)
theorem idxS_snoc : ∀ (L : List (List UInt8)) (t x : List UInt8) (i : Nat), idxS (L ++ [t]) x i = match idxS L x i with | some j => some j | none => if t = x then some (i + L.length) else none
 | [], t, x, i => rfl
 | y :: L, t, x, i => by
  rw [List.cons_append, idxS, idxS]
  by_cases e : y = x
  ·rw [if_pos e, if_pos e]
  ·rw [if_neg e, if_neg e, idxS_snoc L t x (i + 1), List.length_cons, show i + 1 + L.length = i + (L.length + 1) by omega]
def fS (L : List (List UInt8)) : List UInt8 → Option Int := fun x => (idxS L x 0).map fun i => ((i : Nat) : Int)
theorem fS_none {L : List (List UInt8)} {t : List UInt8} (h : idxS L t 0 = none) : fS L t = none := by
 unfold fS
 rw [h]
 rfl
theorem fS_some {L : List (List UInt8)} {t : List UInt8} {j : Nat} (h : idxS L t 0 = some j) : fS L t = some (j : Int) := by
 unfold fS
 rw [h]
 rfl
theorem fS_snoc {L : List (List UInt8)} {t : List UInt8} (h : idxS L t 0 = none) : (fun x => if x = t then some (L.length : Int) else fS L x) = fS (L ++ [t]) := by
 funext x
 unfold fS
 rw [idxS_snoc]
 by_cases e : x = t
 ·rw [if_pos e, e, h]
  simp
 ·rw [if_neg e]
  cases idxS L x 0 with
  | some j => rfl
  | none =>
   show _ = Option.map _ (if t = x then _ else _)
   rw [if_neg fun e2 => e e2.symm]
end Go.Proofs.YtchjgphnglklcaaGreatDoor.Q
end
section
namespace Go.Proofs.YtchjgphnglklcaaGreatDoor.Q
set_option linter.unusedSectionVars false
open Go.RowKit Go.Proofs.YtchjgphnglklcaaGreatDoorW.PrintWords Go.Proofs.YtchjgphnglklcaaGreatDoorW.PrintLast Go.Proofs.YtchjgphnglklcaaGreatDoorW.PrintMore
theorem text_val (w h : Nat) (l : List Int) (hw : 1 ≤ w) (hh : 1 ≤ h) (hs : w * h ≤ 36) (hn : l.length = w * h) : impl_tray_text.f w h l = some (tx l w h) := by
 have hd : l.length / w = h := by rw [hn, Nat.mul_div_cancel_left h (by omega)]
 unfold impl_tray_text.f;have h1 : 1 ≤ w * h := Nat.mul_pos hw hh
 rw [Int.toNat_natCast, hd, if_pos ⟨by omega, by omega, by omega, by rw [hn, Nat.mul_comm]⟩]
 have h2 : ((List.range h).map (rowS l w)).map (·.data.toList) = (List.range h).map (rowL l w) := by
  rw [List.map_map]
  rfl
 have h4 : h ≤ w * h := Nat.le_mul_of_pos_left h hw;have h5 := txL_len l w h
 have h6 : h * (w + 1) ≤ 72 := by rw [Nat.mul_add, Nat.mul_one, Nat.mul_comm]; omega
 have h7 : Lib.join (((List.range h).map (rowS l w)).map (·.data.toList)) (⟨#[47]⟩ : ByteArray).data.toList = txL l w h := by
  rw [h2]
  exact jn_join _
 unfold strings_Join.f
 rw [h7, List.length_map, List.length_range, if_pos ⟨by omega, by omega⟩]
 rfl
end Go.Proofs.YtchjgphnglklcaaGreatDoor.Q
end
