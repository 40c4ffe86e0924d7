/- Texts of this claim, joined. -/
import Derived.Test.YtcpeldgnabfdmabGreatDoorJStepsOfTilt03
import Derived.Test.YtcpeldgnabfdmabGreatDoorJStepsOfTilt04
import Derived.Carry
import Derived.RangeFuncBox
import Derived.RangeFuncLeaves
import Derived.RangeFuncCalls
import Derived.Shelf.Abstract
import Derived.WalkKit
import Derived.OwnWalkIn
import Derived.TacticsInMore
import Derived.LoopNIn
import Derived.LoopIn
import Derived.Maps.AppendAt
import Derived.Test.YtcpeldgnabfdmabGreatDoorJStepsOfTilt01
import Derived.RangeFuncNested
import Derived.RangeFuncBound
import Derived.Laws.BytesArg
set_option linter.unusedVariables false
set_option linter.unusedSimpArgs false
set_option linter.unusedSectionVars false
section
namespace Go.Proofs.YtcpeldgnabfdmabGreatDoor.Q
set_option linter.unusedSectionVars false
open Go.RowKit Go.Proofs.YtcpeldgnabfdmabGreatDoorW.PrintWords Go.Proofs.YtcpeldgnabfdmabGreatDoorW.PrintLast Go.Proofs.YtcpeldgnabfdmabGreatDoorW.PrintMore
def bitI (b : Bool) : Int := if b = true then 1 else 0
theorem bit_eq (b : Bool) : impl_bit.f b = some (bitI b) := by cases b <;> rfl
def spC (cs own : List Int) : List Int → Nat → Bool → List (Int × Int) → Option (List (Int × Int))
 | [], _, _, m => some m
 | x :: l, i, room, m => if 0 ≤ x ∧ x < (cs.length : Int) ∧ x ≤ 1000000 then (impl_isBall.f (rd cs x)).bind fun b => if b = true then (if 0 ≤ wrap64 ((i : Int) - bitI room) ∧ wrap64 ((i : Int) - bitI room) < (own.length : Int) ∧ 0 ≤ rd own (wrap64 ((i : Int) - bitI room)) ∧ rd own (wrap64 ((i : Int) - bitI room)) ≤ 1000000 ∧ m.length < 1000000 then spC cs own l (i + 1) (room || decide (rd cs x = 46)) ((x, rd own (wrap64 ((i : Int) - bitI room))) :: m) else none) else spC cs own l (i + 1) (room || decide (rd cs x = 46)) m else none
def spP (cs : List Int) : List (List Int) → List (Int × Int) → Option (List (Int × Int))
 | [], m => some m
 | p :: P, m => if p.length ≤ 1000 then (spC cs p p 0 false m).bind fun m => spP cs P m else none
def impl_tray_stepped.f (k : Nat) (w h : Int) (cs : List Int) (dir : Int) : Option (Int × Int × List Int) :=
 (impl_tray_stretches.f k w h cs dir).bind fun P => if P.length ≤ 1000 then (spP cs P []).bind fun m => if (0 < cs.length ∧ cs.length ≤ 1000) ∧ fitsB m cs.length = true then some (w, h, laidCells cs (emptyC cs) (asF m) (fun _ => true)) else none else none
set_option maxHeartbeats 16000000 in
set_option maxRecDepth 100000 in
theorem impl_tray_stepped.calls (k : Nat) (a0_0 a0_1 : Int) (A0_2 : Option Addr) (c0_2 : Nat) (l0_2 : List Int) (a1 : Int) (r1 r2 : Int) (r3 : List Int) (w : World) (hr0_2 : Kd.C (Kd.int .u8) w A0_2 l0_2.length l0_2) (hc0_2 : l0_2.length ≤ c0_2) (h : impl_tray_stepped.f k a0_0 a0_1 l0_2 a1 = some (r1, r2, r3)) :
  Calls Tryz.prog 14 #[.agg #[.int .i64 a0_0, .int .i64 a0_1, .slice A0_2 l0_2.length c0_2], .int .u8 a1] w fun e w' => ∃ v2_ : Value, e = .returned (.agg #[.int .i64 r1, .int .i64 r2, v2_]) ∧ Kd.R (Kd.int .u8) 5 w' w.heap.size (fun _ => True) v2_ r3 ∧ Below w.heap.size w w' := by
 unfold impl_tray_stepped.f at h
 obtain ⟨P, hP, h⟩ := Option.bind_eq_some_iff.1 h
 split at h
 case isFalse => cases h
 rename_i hlen
 obtain ⟨m, hm, h⟩ := Option.bind_eq_some_iff.1 h
 split at h
 case isFalse => cases h
 rename_i hcond
 simp only [Option.some.injEq, Prod.mk.injEq] at h
 obtain ⟨rfl, rfl, rfl⟩ := h
 have HR := Aside0.mk hr0_2
 have HC := Aside0.mk hc0_2
 have HP := Aside0.mk hP
 have HSL := Aside0.mk hm
 have HLEN := Aside0.mk hlen
 have HCD := Aside0.mk hcond
 have hu := Tryz.underlying35
 clear hr0_2 hc0_2 hP hm hlen hcond
 go_enter Tryz.func14, Tryz.ntmps14
 go_wp2_with (first
  | ((with_reducible refine gate_dst (N := 2) rfl ?_); refine box_event ?hg (N := 2) ?hd (cs := #[.int .i64 a0_0, .int .i64 a0_1, .slice A0_2 l0_2.length c0_2]) (t := 35) ?hr ?_; (case hd => rfl); (case hg => rfl); (case hr => first | (go_simp; done) | (go_simp; rfl)); intro gt hg w1 hbox hb; (have HB1 := Aside0.mk hb); (have HT1 := Aside0.mk hbox); clear hbox hb hg)
  | ((with_reducible refine gate_dst (N := 4) rfl ?_); refine box_event ?hg (N := 4) ?hd (cs := #[.int .i64 0, .int .i64 0, .slice none 0 0]) (t := 35) ?hr ?_; (case hd => rfl); (case hg => rfl); (case hr => first | (go_simp; done) | (go_simp; rfl)); intro gr hg w2 hbox hb; (have HG2 := Aside0.mk (show w.heap.size ≤ gr by rw [hg]; exact HB1.out.size)); (have hb20 := below_then HB1.out HB1.out.size hb); (have hT20 := (hb.block gt (blk_lt HT1.out)).trans HT1.out); (have HB2 := Aside0.mk (below_alloc hb20 (.map #[] 0))); (have HBM := Aside0.mk hb20.size); (have HT := Aside0.mk (blk_alloc hT20 (.map #[] 0))); (have HRS := Aside0.mk (blk_alloc hbox (.map #[] 0))); (have HM := Aside0.mk (MP.made w2)); (have hmm := run_makeMap (P := Tryz.prog) 51 w2); (have z0 := (blk_cell HT.out 0).trans rfl); (have z1 := (blk_cell HT.out 1).trans rfl); (have z2 := (blk_cell HT.out 2).trans rfl); clear hbox hb hg hb20 hT20 HB1 HT1)
  | (go_at_call 27; refine (impl_tray_stretches.calls k a0_0 a0_1 A0_2 c0_2 l0_2 a1 P _ (Kd.C_below HR.out HB2.out) HC.out HP.out).mono ?_))
 rintro e w3 ⟨v0, rfl, hS, hb3⟩
 have HB3 := Aside0.mk (below_then HB2.out HB2.out.size hb3)
 have HM3 := Aside0.mk (HM.out.below hb3)
 have HT3 := Aside0.mk ((hb3.block gt (blk_lt HT.out)).trans HT.out)
 have HRS3 := Aside0.mk ((hb3.block gr (blk_lt HRS.out)).trans HRS.out)
 have HO3 := Aside0.mk (Kd.S_lower hS HB2.out.size)
 clear z0 z1 z2 hS hb3 HM HT HRS HB2 hmm
 generalize w2.heap.size = bm at HM3 HBM ⊢
 obtain ⟨As, cs, es⟩ := Kd.S_slice HO3.out
 subst es
 go_wp2_with fail
 go_loopg [16] P.length (fun gg v16 wr => ∃ (i : Nat) (m1 : List (Int × Int)), v16 = .int .i64 i ∧ Aside0 (i ≤ P.length ∧ P.length - i ≤ gg ∧ spP l0_2 (P.drop i) m1 = some m) ∧ Aside0 (MP wr bm m1.length (asF m1)) ∧ Aside0 (Kd.S (Kd.slice 3 (Kd.int .i64)) 45 wr w.heap.size (fun _ => True) (.slice As P.length cs) P) ∧ Aside0 (wr.heap[gt]? = some (.cells #[.int .i64 a0_0, .int .i64 a0_1, .slice A0_2 l0_2.length c0_2] 35 (0, 0))) ∧ Aside0 (wr.heap[gr]? = some (.cells #[.int .i64 0, .int .i64 0, .slice none 0 0] 35 (0, 0))) ∧ Aside0 (Below w.heap.size w wr))
 case atStart => exact ⟨0, [], rfl, ⟨Nat.zero_le _, Nat.le_refl _, by rw [List.drop_zero]; exact HSL.out⟩, HM3, HO3, HT3, HRS3, HB3⟩
 case round =>
  clear HM3 HO3 HT3 HRS3 HB3 HSL
  obtain ⟨i, m1, rfl, HA, HM, HO, HT, HRS, HB⟩ := hrel
  by_cases hli : i < P.length
  ·have c2 : decide ((i : Int) < (P.length : Int)) = true := decide_eq_true (by omega)
   have p1 : (0 ≤ (i : Int)) = True := eq_true (by omega)
   have p2 : ((i : Int) < (P.length : Int)) = True := eq_true (by omega)
   have hsp := HA.out.2.2
   rw [drop_at P [] i hli] at hsp
   obtain ⟨hpl, hsp⟩ : (P.getD i []).length ≤ 1000 ∧ ((spC l0_2 (P.getD i []) (P.getD i []) 0 false m1).bind fun m => spP l0_2 (P.drop (i + 1)) m) = some m := by
    unfold spP at hsp
    split at hsp
    ·rename_i hc
     exact ⟨hc, hsp⟩
    ·cases hsp
   obtain ⟨m2, hsc, hsp⟩ := Option.bind_eq_some_iff.1 hsp
   have HSP := Aside0.mk hsp
   obtain ⟨ad5, A5, c5, e5, hx5, hl5, hi5⟩ := at_S (Kd.S_reads' HO.out).2.2 (i : Int) (by omega) (by omega)
   cases e5
   obtain ⟨ce5, hce5, hMe5, hcc5⟩ := Kd.S_get HO.out [] (i : Int) (by omega) (by omega)
   obtain ⟨ve5, rfl, ge5⟩ := hMe5
   have hv5 := hcc5 0 _ rfl
   rw [Nat.add_zero, show ((Kd.slice 3 (Kd.int .i64))).sz = 1 from rfl, Nat.mul_one] at hv5
   replace hv5 := Option.some.inj (hv5.symm.trans hx5)
   rw [hv5] at ge5
   have hrd : rdS P (i : Int) = P.getD i [] := by unfold rdS; rw [Int.toNat_natCast]
   have HL5 := Aside0.mk (show Kd.R (Kd.int .i64) 3 wr w.heap.size (fun _ => True) (.slice A5 (rdS P (i : Int)).length c5) (rdS P (i : Int)) from Kd.R_mono ge5 (fun _ _ => trivial))
   rw [hrd] at HL5 hx5 hl5
   rw [Int.toNat_natCast] at hx5
   clear hv5 hcc5 hce5 hi5 ge5 hrd hsp
   generalize P.getD i [] = pc at hpl hsc HL5 hx5 hl5
   have HPC := Aside0.mk hpl
   have HSC := Aside0.mk hsc
   have HCP := Aside0.mk hl5
   have HGK2 := Aside0.mk (show P.length - i ≤ gk ∧ i < P.length from ⟨HA.out.2.1, hli⟩)
   clear hsc hpl HA hli hl5
   go_wp2_with fail
   go_loopg [8, 22] pc.length (fun gg v8 v22 wr => ∃ (u : Nat) (room : Bool) (m3 : List (Int × Int)), v8 = .bool room ∧ v22 = .int .i64 u ∧ Aside0 (u ≤ pc.length ∧ pc.length - u ≤ gg ∧ spC l0_2 pc (pc.drop u) u room m3 = some m2) ∧ Aside0 (MP wr bm m3.length (asF m3)) ∧ Aside0 (Kd.S (Kd.slice 3 (Kd.int .i64)) 45 wr w.heap.size (fun _ => True) (.slice (some ad5) P.length cs) P) ∧ Aside0 (Kd.R (Kd.int .i64) 3 wr w.heap.size (fun _ => True) (.slice A5 pc.length c5) pc) ∧ Aside0 (wr.heap[gt]? = some (.cells #[.int .i64 a0_0, .int .i64 a0_1, .slice A0_2 l0_2.length c0_2] 35 (0, 0))) ∧ Aside0 (wr.heap[gr]? = some (.cells #[.int .i64 0, .int .i64 0, .slice none 0 0] 35 (0, 0))) ∧ Aside0 (Below w.heap.size w wr))
   case atStart => exact ⟨0, false, m1, rfl, rfl, ⟨Nat.zero_le _, by omega, by rw [List.drop_zero]; exact HSC.out⟩, HM, HO, HL5, HT, HRS, HB⟩
   case round =>
    clear HSC HM HO HL5 HT HRS HB hx5 c2 p1 p2
    obtain ⟨u, room, m3, rfl, rfl, HA3, HMX, HOX, HLX, HTX, HRX, HBX⟩ := hrel
    by_cases hlu : u < pc.length
    ·have c3 : decide ((u : Int) < (pc.length : Int)) = true := decide_eq_true (by omega)
     have p3 : (0 ≤ (u : Int)) = True := eq_true (by omega)
     have p4 : ((u : Int) < (pc.length : Int)) = True := eq_true (by omega)
     have hbq := HA3.out.2.2
     rw [drop_at pc 0 u hlu] at hbq
     obtain ⟨ad3, e3, hx3⟩ := Kd.at_int (Kd.R_reads' HLX.out).2.2 (u : Int) (by omega) (by omega)
     cases e3
     rw [Int.toNat_natCast] at hx3
     rw [show rd pc (u : Int) = pc.getD u 0 from by unfold rd; rw [Int.toNat_natCast]] at hx3
     generalize pc.getD u 0 = x at hx3 hbq
     unfold spC at hbq
     split at hbq
     case isFalse => cases hbq
     rename_i hxr
     obtain ⟨b, hb1, hbq⟩ := Option.bind_eq_some_iff.1 hbq
     have p5 : (0 ≤ x) = True := eq_true hxr.1
     have p6 : (x < (l0_2.length : Int)) = True := eq_true hxr.2.1
     obtain ⟨ad7, e7, hx7⟩ := Kd.at_int (Kd.C_below HR.out HBX.out) x hxr.1 hxr.2.1
     cases e7
     have HXR := Aside0.mk hxr
     have HIB := Aside0.mk hb1
     have HNXT := Aside0.mk hbq
     have HGK3 := Aside0.mk (show pc.length - u ≤ gk ∧ u < pc.length from ⟨HA3.out.2.1, hlu⟩)
     have z0 := (blk_cell HTX.out 0).trans rfl
     have z1 := (blk_cell HTX.out 1).trans rfl
     have z2 := (blk_cell HTX.out 2).trans rfl
     clear hbq hb1 hxr HA3 hlu
     go_wp2_with fail
     refine (impl_isBall.calls (rd l0_2 x) b _ HIB.out).mono ?_
     rintro e w6 ⟨rfl, hd⟩
     have hb9 := hd.below
     have HM6 := Aside0.mk (HMX.out.below hb9)
     have HO6 := Aside0.mk (S_blw HOX.out hb9)
     have HL6 := Aside0.mk (Kd.R_below HLX.out hb9)
     have HT6 := Aside0.mk ((hb9.block gt (blk_lt HTX.out)).trans HTX.out)
     have HR6 := Aside0.mk ((hb9.block gr (blk_lt HRX.out)).trans HRX.out)
     have HB6 := Aside0.mk (below_then HBX.out HBX.out.size hb9)
     clear hd hb9 hx3 hx7 z0 z1 z2 HMX HOX HLX HTX HRX HBX HIB p3 p4 c3
     cases b with
     | true =>
      have hnx := HNXT.out
      rw [if_pos rfl] at hnx
      split at hnx
      case isFalse => cases hnx
      rename_i hcn
      obtain ⟨bv, hbv⟩ : ∃ bv : Int, bitI room = bv := ⟨_, rfl⟩
      have HBV := Aside0.mk (show impl_bit.f room = some bv by rw [← hbv]; exact bit_eq room)
      rw [hbv] at hcn hnx
      have HCN := Aside0.mk hcn
      have HN2 := Aside0.mk hnx
      have p3 : (0 ≤ wrap64 ((u : Int) - bv)) = True := eq_true hcn.1
      have p4 : (wrap64 ((u : Int) - bv) < (pc.length : Int)) = True := eq_true hcn.2.1
      clear hcn hnx HNXT hbv
      cases room with
      | true =>
       go_wp2_with (first
        | (go_at_call 29; refine (impl_bit.calls true bv _ HBV.out).mono ?_; rintro e w7 ⟨rfl, hd7⟩; (have hb7 := hd7.below); (have HM7 := Aside0.mk (HM6.out.below hb7)); (have HO7 := Aside0.mk (S_blw HO6.out hb7)); (have HL7 := Aside0.mk (Kd.R_below HL6.out hb7)); (have HT7 := Aside0.mk ((hb7.block gt (blk_lt HT6.out)).trans HT6.out)); (have HR7 := Aside0.mk ((hb7.block gr (blk_lt HR6.out)).trans HR6.out)); (have HB7 := Aside0.mk (below_then HB6.out HB6.out.size hb7)); (obtain ⟨ad8, e8, hx8⟩ := Kd.at_int (Kd.R_reads' HL7.out).2.2 (wrap64 ((u : Int) - bv)) HCN.out.1 HCN.out.2.1); cases e8; clear hd7 hb7 HM6 HO6 HL6 HT6 HR6 HB6)
        | (at_mapUpdate; refine wpList_put rfl _ rfl _ _ _ 51 rfl Tryz.underlying51 bm m3.length (asF m3) HM7.out HCN.out.2.2.2.2 x (rd pc (wrap64 ((u : Int) - bv))) rfl rfl rfl ⟨HXR.out.1, HXR.out.2.2, HCN.out.2.2.1, HCN.out.2.2.2.1⟩ ?_; intro w8 hm8 hg8; (have HM8 := Aside0.mk hm8); (have HL8 := Aside0.mk (R_turn HL7.out hg8 HM7.out.nc)); (have HO8 := Aside0.mk (S_turn HO7.out hg8 HM7.out.nc)); (have HT8 := Aside0.mk (blk_turn HT7.out hg8 HM7.out.nc)); (have HR8 := Aside0.mk (blk_turn HR7.out hg8 HM7.out.nc)); (have HB8 := Aside0.mk (HB7.out.grown hg8 HB7.out.size (fun k e => by cases e; exact HBM.out))); clear hm8 hg8 HM7 HL7 HO7 HT7 HR7 HB7 hx8; (have z0 := (blk_cell HT8.out 0).trans rfl); (have z1 := (blk_cell HT8.out 1).trans rfl); (have z2 := (blk_cell HT8.out 2).trans rfl); (obtain ⟨ad9, e9, hx9⟩ := Kd.at_int (Kd.C_below HR.out HB8.out) x HXR.out.1 HXR.out.2.1); cases e9))
       go_roundg (pc.length - (u + 1))
       case measure => have := HGK3.out; omega
       case rel => exact ⟨u + 1, true || decide (rd l0_2 x = 46), (x, rd pc (wrap64 ((u : Int) - bv))) :: m3, by first | rfl | simp, by first | rfl | rw [wrap64_nat u (by have := HGK3.out; have := HPC.out; omega)] | simp, ⟨by have := HGK3.out; omega, Nat.le_refl _, HN2.out⟩, HM8, HO8, HL8, HT8, HR8, HB8⟩
      | false =>
       go_wp2_with (first
        | (go_at_call 29; refine (impl_bit.calls false bv _ HBV.out).mono ?_; rintro e w7 ⟨rfl, hd7⟩; (have hb7 := hd7.below); (have HM7 := Aside0.mk (HM6.out.below hb7)); (have HO7 := Aside0.mk (S_blw HO6.out hb7)); (have HL7 := Aside0.mk (Kd.R_below HL6.out hb7)); (have HT7 := Aside0.mk ((hb7.block gt (blk_lt HT6.out)).trans HT6.out)); (have HR7 := Aside0.mk ((hb7.block gr (blk_lt HR6.out)).trans HR6.out)); (have HB7 := Aside0.mk (below_then HB6.out HB6.out.size hb7)); (obtain ⟨ad8, e8, hx8⟩ := Kd.at_int (Kd.R_reads' HL7.out).2.2 (wrap64 ((u : Int) - bv)) HCN.out.1 HCN.out.2.1); cases e8; clear hd7 hb7 HM6 HO6 HL6 HT6 HR6 HB6)
        | (at_mapUpdate; refine wpList_put rfl _ rfl _ _ _ 51 rfl Tryz.underlying51 bm m3.length (asF m3) HM7.out HCN.out.2.2.2.2 x (rd pc (wrap64 ((u : Int) - bv))) rfl rfl rfl ⟨HXR.out.1, HXR.out.2.2, HCN.out.2.2.1, HCN.out.2.2.2.1⟩ ?_; intro w8 hm8 hg8; (have HM8 := Aside0.mk hm8); (have HL8 := Aside0.mk (R_turn HL7.out hg8 HM7.out.nc)); (have HO8 := Aside0.mk (S_turn HO7.out hg8 HM7.out.nc)); (have HT8 := Aside0.mk (blk_turn HT7.out hg8 HM7.out.nc)); (have HR8 := Aside0.mk (blk_turn HR7.out hg8 HM7.out.nc)); (have HB8 := Aside0.mk (HB7.out.grown hg8 HB7.out.size (fun k e => by cases e; exact HBM.out))); clear hm8 hg8 HM7 HL7 HO7 HT7 HR7 HB7 hx8; (have z0 := (blk_cell HT8.out 0).trans rfl); (have z1 := (blk_cell HT8.out 1).trans rfl); (have z2 := (blk_cell HT8.out 2).trans rfl); (obtain ⟨ad9, e9, hx9⟩ := Kd.at_int (Kd.C_below HR.out HB8.out) x HXR.out.1 HXR.out.2.1); cases e9))
       go_roundg (pc.length - (u + 1))
       case measure => have := HGK3.out; omega
       case rel => exact ⟨u + 1, false || decide (rd l0_2 x = 46), (x, rd pc (wrap64 ((u : Int) - bv))) :: m3, by first | rfl | simp, by first | rfl | rw [wrap64_nat u (by have := HGK3.out; have := HPC.out; omega)] | simp, ⟨by have := HGK3.out; omega, Nat.le_refl _, HN2.out⟩, HM8, HO8, HL8, HT8, HR8, HB8⟩
     | false =>
      have hnx := HNXT.out
      rw [if_neg (by decide)] at hnx
      have HN2 := Aside0.mk hnx
      have z0 := (blk_cell HT6.out 0).trans rfl
      have z1 := (blk_cell HT6.out 1).trans rfl
      have z2 := (blk_cell HT6.out 2).trans rfl
      obtain ⟨ad9, e9, hx9⟩ := Kd.at_int (Kd.C_below HR.out HB6.out) x HXR.out.1 HXR.out.2.1
      cases e9
      clear hnx HNXT
      cases room with
      | true =>
       go_wp2
       go_roundg (pc.length - (u + 1))
       case measure => have := HGK3.out; omega
       case rel => exact ⟨u + 1, true || decide (rd l0_2 x = 46), m3, by first | rfl | simp, by first | rfl | rw [wrap64_nat u (by have := HGK3.out; have := HPC.out; omega)] | simp, ⟨by have := HGK3.out; omega, Nat.le_refl _, HN2.out⟩, HM6, HO6, HL6, HT6, HR6, HB6⟩
      | false =>
       go_wp2
       go_roundg (pc.length - (u + 1))
       case measure => have := HGK3.out; omega
       case rel => exact ⟨u + 1, false || decide (rd l0_2 x = 46), m3, by first | rfl | simp, by first | rfl | rw [wrap64_nat u (by have := HGK3.out; have := HPC.out; omega)] | simp, ⟨by have := HGK3.out; omega, Nat.le_refl _, HN2.out⟩, HM6, HO6, HL6, HT6, HR6, HB6⟩
    ·obtain rfl : u = pc.length := by have := HA3.out.1; omega
     have c3 : decide ((pc.length : Int) < (pc.length : Int)) = false := decide_eq_false (by omega)
     have he := HA3.out.2.2
     rw [List.drop_length] at he
     obtain rfl : m3 = m2 := Option.some.inj he
     clear he HA3 hlu
     go_wp2
     go_roundg (P.length - (i + 1))
     case measure => have := HGK2.out; omega
     case rel => exact ⟨i + 1, m3, by first | rfl | rw [wrap64_nat i (by have := HGK2.out; have := HLEN.out; omega)] | simp, ⟨by have := HGK2.out; omega, Nat.le_refl _, HSP.out⟩, HMX, HOX, HTX, HRX, HBX⟩
  ·obtain rfl : i = P.length := by have := HA.out.1; omega
   have c2 : decide ((P.length : Int) < (P.length : Int)) = false := decide_eq_false (by omega)
   have he := HA.out.2.2
   rw [List.drop_length] at he
   obtain rfl : m1 = m := Option.some.inj he
   clear he HA hli HO
   have z0 := (blk_cell HT.out 0).trans rfl
   have z1 := (blk_cell HT.out 1).trans rfl
   have z2 := (blk_cell HT.out 2).trans rfl
   go_wp2_with (first
    | (go_at_call 30; refine (carried_calls a0_0 a0_1 A0_2 c0_2 l0_2 bm m1.length (asF m1) _ (Kd.C_below HR.out HB.out) HC.out HCD.out.1 HM.out (fits_tilt HCD.out.2)).mono ?_; rintro e w9 ⟨v2, rfl, hr, hb9⟩; (have HR9 := Aside0.mk (Kd.R_lower hr HB.out.size)); (have HG9 := Aside0.mk ((hb9.block gr (blk_lt HRS.out)).trans HRS.out)); (have HB9 := Aside0.mk (below_then HB.out HB.out.size hb9)); (obtain ⟨Ar, cr, rfl⟩ := Kd.R_slice HR9.out); (have g0 := blk_frozen HG9.out 0); (have g1 := blk_frozen HG9.out 1); (have g2 := blk_frozen HG9.out 2); (have r0 := (blk_cell HG9.out 0).trans rfl); (have r1 := (blk_cell HG9.out 1).trans rfl); (have r2 := (blk_cell HG9.out 2).trans rfl); clear hr hb9))
   refine bodyPost_ret (results_cell_row rfl _ _ gr 35 #[.int .i64 a0_0, .int .i64 a0_1, .slice Ar (laidCells l0_2 (emptyC l0_2) (asF m1) fun _ => true).length cr] (0, 0) _ rfl (by refine blk_put (cs := #[.int .i64 a0_0, .int .i64 a0_1, .slice none 0 0]) ?_ 2 _ rfl; refine blk_put (cs := #[.int .i64 a0_0, .int .i64 0, .slice none 0 0]) ?_ 1 _ rfl; refine blk_put (cs := #[.int .i64 0, .int .i64 0, .slice none 0 0]) ?_ 0 _ rfl; exact HG9.out) Tryz.underlying35 rfl (by kernel_rfl)) rfl ?_
   exact ⟨_, rfl, Kd.R_mono (Kd.R_far (p := ⟨gr, 2, none⟩) (Kd.R_far (p := ⟨gr, 1, none⟩) (Kd.R_far (p := ⟨gr, 0, none⟩) (Kd.R_types HR9.out HG9.out (by decide)) (fun _ hk => hk.2) (.int .i64 a0_0)) (fun _ hk => hk.2) (.int .i64 a0_1)) (fun _ hk => hk.2) (.slice Ar (laidCells l0_2 (emptyC l0_2) (asF m1) fun _ => true).length cr)) (fun _ _ => trivial), below_set (below_set (below_set HB9.out HG2.out) HG2.out) HG2.out⟩
end Go.Proofs.YtcpeldgnabfdmabGreatDoor.Q
end
section
namespace Go.Proofs.YtcpeldgnabfdmabGreatDoor.Q
set_option linter.unusedSectionVars false
set_option linter.unusedSimpArgs false
open Go.RowKit Go.Proofs.YtcpeldgnabfdmabGreatDoorW.PrintWords Go.Proofs.YtcpeldgnabfdmabGreatDoorW.PrintLast Go.Proofs.YtcpeldgnabfdmabGreatDoorW.PrintMore
def tsC (cs own : List Int) : List Int → Nat → Bool → List Int → Option (List Int)
 | [], _, _, out => some out
 | x :: l, i, fr, out => if 0 ≤ x ∧ x < (cs.length : Int) then (spec_tyBall.f (rd cs x)).bind fun b => if b = true then (if fr = true then (if 0 ≤ wrap64 ((i : Int) - 1) ∧ wrap64 ((i : Int) - 1) < (own.length : Int) ∧ 0 ≤ rd own (wrap64 ((i : Int) - 1)) ∧ rd own (wrap64 ((i : Int) - 1)) < (cs.length : Int) then tsC cs own l (i + 1) fr ((out.set (rd own (wrap64 ((i : Int) - 1))).toNat (rd cs x)).set x.toNat 46) else none) else tsC cs own l (i + 1) fr out) else tsC cs own l (i + 1) true out else none
def tsP (cs : List Int) : List (List Int) → List Int → Option (List Int)
 | [], out => some out
 | p :: P, out => if p.length ≤ 1000 then (tsC cs p p 0 false out).bind fun out => tsP cs P out else none
def spec_tiStep.f (k : Nat) (w h : Int) (cs : List Int) (dir : Int) : Option (Int × Int × List Int) :=
 if 0 < cs.length ∧ cs.length ≤ 1000 then (spec_tiStretches.f k w h cs dir).bind fun P => if P.length ≤ 1000 then (tsP cs P cs).bind fun out => some (w, h, out) else none else none
set_option maxHeartbeats 16000000 in
set_option maxRecDepth 100000 in
theorem spec_tiStep.calls (k : Nat) (a0_0 a0_1 : Int) (A0_2 : Option Addr) (c0_2 : Nat) (l0_2 : List Int) (a1 : Int) (r1 r2 : Int) (r3 : List Int) (w : World) (hr0_2 : Kd.C (Kd.int .u8) w A0_2 l0_2.length l0_2) (hc0_2 : l0_2.length ≤ c0_2) (h : spec_tiStep.f k a0_0 a0_1 l0_2 a1 = some (r1, r2, r3)) :
  Calls Tryz.prog 11 #[.agg #[.int .i64 a0_0, .int .i64 a0_1, .slice A0_2 l0_2.length c0_2], .int .i64 a1] w fun e w' => ∃ v2_ : Value, e = .returned (.agg #[.int .i64 r1, .int .i64 r2, v2_]) ∧ Kd.R (Kd.int .u8) 5 w' w.heap.size (fun _ => True) v2_ r3 ∧ Below w.heap.size w w' := by
 unfold spec_tiStep.f at h
 split at h
 case isFalse => cases h
 rename_i hl
 obtain ⟨P, hP, h⟩ := Option.bind_eq_some_iff.1 h
 split at h
 case isFalse => cases h
 rename_i hlen
 obtain ⟨res, hm, h⟩ := Option.bind_eq_some_iff.1 h
 simp only [Option.some.injEq, Prod.mk.injEq] at h
 obtain ⟨rfl, rfl, rfl⟩ := h
 have hu := Tryz.underlying29
 have HR := Aside0.mk hr0_2
 have HC := Aside0.mk hc0_2
 have HL := Aside0.mk hl
 have HP := Aside0.mk hP
 have HSL := Aside0.mk hm
 have HLEN := Aside0.mk hlen
 have HV := Aside0.mk (copy_val a0_0 a0_1 l0_2 hl.1 hl.2)
 clear hr0_2 hc0_2 hl hP hm hlen
 go_enter Tryz.func11, Tryz.ntmps11
 go_wp2_with (first
  | ((with_reducible refine gate_dst (N := 2) rfl ?_); refine box_event ?hg (N := 2) ?hd (cs := #[.int .i64 a0_0, .int .i64 a0_1, .slice A0_2 l0_2.length c0_2]) (t := 29) ?hr ?_; (case hd => rfl); (case hg => rfl); (case hr => first | (go_simp; done) | (go_simp; rfl)); intro gt hg w1 hbox hb; (have HB1 := Aside0.mk hb); (have HT := Aside0.mk hbox); clear hbox hb hg)
  | ((with_reducible refine gate_dst (N := 4) rfl ?_); refine box_event ?hg (N := 4) ?hd (cs := #[.int .i64 0, .int .i64 0, .slice none 0 0]) (t := 29) ?hr ?_; (case hd => rfl); (case hg => rfl); (case hr => first | (go_simp; done) | (go_simp; rfl)); intro gr hg w2 hbox hb; (have HG2 := Aside0.mk (show w.heap.size ≤ gr by rw [hg]; exact HB1.out.size)); (have HB2 := Aside0.mk (below_then HB1.out HB1.out.size hb)); (have HT2 := Aside0.mk ((hb.block gt (blk_lt HT.out)).trans HT.out)); (have HRS := Aside0.mk hbox); (have z0 := (blk_cell HT2.out 0).trans rfl); (have z1 := (blk_cell HT2.out 1).trans rfl); (have z2 := (blk_cell HT2.out 2).trans rfl); clear hbox hb hg HT HB1))
 refine (spec_tyCopy.calls a0_0 a0_1 _ c0_2 l0_2 a0_0 a0_1 l0_2 _ (Kd.C_below HR.out HB2.out) HC.out HV.out).mono ?_
 rintro e w3 ⟨v2, rfl, ho, hb3⟩
 obtain ⟨gb, c, rfl, hgb, hlb, cl, hcl⟩ := Kd.R_form ho HL.out.1
 have HB3 := Aside0.mk (below_then HB2.out HB2.out.size hb3)
 have HRS3 := Aside0.mk ((hb3.block gr (blk_lt HRS.out)).trans HRS.out)
 have HT3 := Aside0.mk ((hb3.block gt (blk_lt HT2.out)).trans HT2.out)
 have HO3 := Aside0.mk (Kd.R_lower ho HB2.out.size)
 have HGB := Aside0.mk (Nat.le_trans HB2.out.size hgb)
 clear z0 z1 z2 HT2 HRS HB2 ho hb3 hgb hlb hcl
 go_wp2_with (first
  | ((with_reducible refine gate_dst (N := 5) rfl ?_); refine box_event ?hg (N := 5) ?hd (cs := #[.int .i64 0, .int .i64 0, .slice none 0 0]) (t := 29) ?hr ?_; (case hd => rfl); (case hg => rfl); (case hr => first | (go_simp; done) | (go_simp; rfl)); intro go hg w4 hbox hb; (have HGO := Aside0.mk (show w.heap.size ≤ go by rw [hg]; exact HB3.out.size)); (have HNE := Aside0.mk (show gr ≠ go by rw [hg]; exact Nat.ne_of_lt (blk_lt HRS3.out))); (have HNT := Aside0.mk (show gt ≠ go by rw [hg]; exact Nat.ne_of_lt (blk_lt HT3.out))); (have HB4 := Aside0.mk (below_then HB3.out HB3.out.size hb)); (have HT4 := Aside0.mk ((hb.block gt (blk_lt HT3.out)).trans HT3.out)); (have HRS4 := Aside0.mk ((hb.block gr (blk_lt HRS3.out)).trans HRS3.out)); (have HO4 := Aside0.mk (Kd.R_below HO3.out hb)); (have HU := Aside0.mk hbox); (have y0 := (blk_cell HU.out 0).trans rfl); (have y1 := (blk_cell HU.out 1).trans rfl); (have y2 := (blk_cell HU.out 2).trans rfl); (have f0 := blk_frozen HU.out 0); (have f1 := blk_frozen HU.out 1); (have f2 := blk_frozen HU.out 2); clear hbox hb hg HB3 HRS3 HO3 HT3)
  | ((with_reducible refine gate_store (t := 29) (p := 5) rfl ?_); refine store_event (t := 29) (p := 5) (v := ?vo) (w1 := (((w4.setCell ⟨go, 0, none⟩ (.int .i64 a0_0)).setCell ⟨go, 1, none⟩ (.int .i64 a0_1)).setCell ⟨go, 2, none⟩ (.slice (some ⟨gb, 0, none⟩) l0_2.length c))) ?hg ?ho ?hn ?hr ?_; (case ho => rfl); (case hg => rfl); (case hn => rfl); (case hr => first | (go_simp; done) | (go_simp; rfl)); intro w5 hw; (have HE := Aside0.mk (show EMs w w5 gr go gb a0_0 a0_1 l0_2.length c l0_2 from by rw [hw]; exact ⟨below_set (below_set (below_set HB4.out HGO.out) HGO.out) HGO.out, blk_far (blk_far (blk_far HRS4.out HNE.out _) HNE.out _) HNE.out _, (by refine blk_put (cs := #[.int .i64 a0_0, .int .i64 a0_1, .slice none 0 0]) ?_ 2 _ rfl; refine blk_put (cs := #[.int .i64 a0_0, .int .i64 0, .slice none 0 0]) ?_ 1 _ rfl; refine blk_put (cs := #[.int .i64 0, .int .i64 0, .slice none 0 0]) ?_ 0 _ rfl; exact HU.out), Kd.R_mono (Kd.R_far (p := ⟨go, 2, none⟩) (Kd.R_far (p := ⟨go, 1, none⟩) (Kd.R_far (p := ⟨go, 0, none⟩) (Kd.R_types HO4.out HU.out (by decide)) (fun _ hk => hk.2) (.int .i64 a0_0)) (fun _ hk => hk.2) (.int .i64 a0_1)) (fun _ hk => hk.2) (.slice (some ⟨gb, 0, none⟩) l0_2.length c)) (fun _ _ => trivial), HG2.out, HGO.out, HGB.out, HNE.out, rfl⟩)); (have HT5 := Aside0.mk (show w5.heap[gt]? = some (.cells #[.int .i64 a0_0, .int .i64 a0_1, .slice A0_2 l0_2.length c0_2] 29 (0, 0)) from by rw [hw]; exact blk_far (blk_far (blk_far HT4.out HNT.out _) HNT.out _) HNT.out _)); clear hw HU HO4 HRS4 HT4 HB4 y0 y1 y2 f0 f1 f2; (have z0 := (blk_cell HT5.out 0).trans rfl); (have z1 := (blk_cell HT5.out 1).trans rfl); (have z2 := (blk_cell HT5.out 2).trans rfl))
  | (go_at_call 21; refine (spec_tiStretches.calls k a0_0 a0_1 A0_2 c0_2 l0_2 a1 P _ (Kd.C_below HR.out HE.out.below) HC.out HP.out).mono ?_))
 rintro e w6 ⟨v0, rfl, hS, hb6⟩
 have HWM := Aside0.mk (show gb < w5.heap.size ∧ go < w5.heap.size ∧ gr < w5.heap.size ∧ gt < w5.heap.size from by
  obtain ⟨_, _, h3, _⟩ := (Kd.R_bound HE.out.row).1 gb rfl
  exact ⟨h3, blk_lt HE.out.out, blk_lt HE.out.res, blk_lt HT5.out⟩)
 have HE6 := Aside0.mk (HE.out.step hb6)
 have HT6 := Aside0.mk ((hb6.block gt (blk_lt HT5.out)).trans HT5.out)
 generalize w5.heap.size = wm at hS HWM
 have HO6 := Aside0.mk hS
 clear z0 z1 z2 hS hb6 HE HT5
 obtain ⟨As, cs, es⟩ := Kd.N_slice HO6.out
 subst es
 go_wp2_with fail
 go_loopg [17] P.length (fun gg v17 wr => ∃ (i : Nat) (out : List Int), v17 = .int .i64 i ∧ Aside0 (i ≤ P.length ∧ P.length - i ≤ gg ∧ tsP l0_2 (P.drop i) out = some res) ∧ Aside0 (EMs w wr gr go gb a0_0 a0_1 l0_2.length c out) ∧ Aside0 (Kd.N (Kd.slice 3 (Kd.int .i64)) 45 wr wm (fun k_ => wm ≤ k_) (.slice As P.length cs) P) ∧ Aside0 (wr.heap[gt]? = some (.cells #[.int .i64 a0_0, .int .i64 a0_1, .slice A0_2 l0_2.length c0_2] 29 (0, 0))))
 case atStart => exact ⟨0, l0_2, rfl, ⟨Nat.zero_le _, Nat.le_refl _, by rw [List.drop_zero]; exact HSL.out⟩, HE6, HO6, HT6⟩
 case round =>
  clear HE6 HO6 HT6 HSL
  obtain ⟨i, out, rfl, HA, HE, HO, HT⟩ := hrel
  by_cases hli : i < P.length
  ·have c2 : decide ((i : Int) < (P.length : Int)) = true := decide_eq_true (by omega)
   have p1 : (0 ≤ (i : Int)) = True := eq_true (by omega)
   have p2 : ((i : Int) < (P.length : Int)) = True := eq_true (by omega)
   have hsp := HA.out.2.2
   rw [drop_at P [] i hli] at hsp
   obtain ⟨hpl, hsp⟩ : (P.getD i []).length ≤ 1000 ∧ ((tsC l0_2 (P.getD i []) (P.getD i []) 0 false out).bind fun m => tsP l0_2 (P.drop (i + 1)) m) = some res := by
    unfold tsP at hsp
    split at hsp
    ·rename_i hc
     exact ⟨hc, hsp⟩
    ·cases hsp
   obtain ⟨m2, hsc, hsp⟩ := Option.bind_eq_some_iff.1 hsp
   have HSP := Aside0.mk hsp
   obtain ⟨ad5, A5, c5, e5, hx5, hl5, hi5⟩ := at_S (Kd.N_reads' HO.out).2.2 (i : Int) (by omega) (by omega)
   cases e5
   obtain ⟨ce5, hce5, hMe5, hcc5⟩ := Kd.N_get HO.out [] (i : Int) (by omega) (by omega)
   obtain ⟨ua5, uc5, rfl, ul5, ge5⟩ := Kd.FK_slice_open hMe5
   have hv5 := hcc5 0 _ rfl
   rw [Nat.add_zero, show ((Kd.slice 3 (Kd.int .i64))).sz = 1 from rfl, Nat.mul_one] at hv5
   replace hv5 := Option.some.inj (hv5.symm.trans hx5)
   injection hv5 with hva hvn hvc
   rw [hva] at ge5
   rw [hvc] at ul5
   have hrd : rdS P (i : Int) = P.getD i [] := by unfold rdS; rw [Int.toNat_natCast]
   have hge : P.getD (i : Int).toNat [] = P.getD i [] := by rw [Int.toNat_natCast]
   rw [hge] at ge5 ul5
   have HL5 := Aside0.mk (show Kd.V (Kd.int .i64) 3 wr wm (fun k_ => wm ≤ k_) (.slice A5 (P.getD i []).length c5) (P.getD i []) from Kd.V_mono (Kd.V_mk ul5 ge5) (fun _ hk => hk.1))
   rw [hrd] at hx5 hl5
   rw [Int.toNat_natCast] at hx5
   clear hva hvn hvc hcc5 hce5 hi5 ge5 ul5 hrd hsp hge hMe5
   generalize P.getD i [] = pc at hpl hsc HL5 hx5 hl5
   have HPC := Aside0.mk hpl
   have HSC := Aside0.mk hsc
   have HCP := Aside0.mk hl5
   have HGK2 := Aside0.mk (show P.length - i ≤ gk ∧ i < P.length from ⟨HA.out.2.1, hli⟩)
   clear hsc hpl HA hli hl5
   go_wp2_with fail
   go_loopg [8, 23] pc.length (fun gg v8 v23 wr => ∃ (u : Nat) (fr : Bool) (o3 : List Int), v8 = .bool fr ∧ v23 = .int .i64 u ∧ Aside0 (u ≤ pc.length ∧ pc.length - u ≤ gg ∧ tsC l0_2 pc (pc.drop u) u fr o3 = some m2) ∧ Aside0 (EMs w wr gr go gb a0_0 a0_1 l0_2.length c o3) ∧ Aside0 (Kd.N (Kd.slice 3 (Kd.int .i64)) 45 wr wm (fun k_ => wm ≤ k_) (.slice (some ad5) P.length cs) P) ∧ Aside0 (Kd.V (Kd.int .i64) 3 wr wm (fun k_ => wm ≤ k_) (.slice A5 pc.length c5) pc) ∧ Aside0 (wr.heap[gt]? = some (.cells #[.int .i64 a0_0, .int .i64 a0_1, .slice A0_2 l0_2.length c0_2] 29 (0, 0))))
   case atStart => exact ⟨0, false, out, rfl, rfl, ⟨Nat.zero_le _, by omega, by rw [List.drop_zero]; exact HSC.out⟩, HE, HO, HL5, HT⟩
   case round =>
    clear HSC HE HO HL5 HT hx5 c2 p1 p2
    obtain ⟨u, fr, o3, rfl, rfl, HA3, HEX, HOX, HLX, HTX⟩ := hrel
    by_cases hlu : u < pc.length
    ·have c3 : decide ((u : Int) < (pc.length : Int)) = true := decide_eq_true (by omega)
     have p3 : (0 ≤ (u : Int)) = True := eq_true (by omega)
     have p4 : ((u : Int) < (pc.length : Int)) = True := eq_true (by omega)
     have hbq := HA3.out.2.2
     rw [drop_at pc 0 u hlu] at hbq
     obtain ⟨ad3, e3, hx3⟩ := Kd.at_int (Kd.V_reads' HLX.out).2.2 (u : Int) (by omega) (by omega)
     cases e3
     rw [Int.toNat_natCast] at hx3
     rw [show rd pc (u : Int) = pc.getD u 0 from by unfold rd; rw [Int.toNat_natCast]] at hx3
     generalize pc.getD u 0 = x at hx3 hbq
     unfold tsC at hbq
     split at hbq
     case isFalse => cases hbq
     rename_i hxr
     obtain ⟨b, hb1, hbq⟩ := Option.bind_eq_some_iff.1 hbq
     have p5 : (0 ≤ x) = True := eq_true hxr.1
     have p6 : (x < (l0_2.length : Int)) = True := eq_true hxr.2
     obtain ⟨ad7, e7, hx7⟩ := Kd.at_int (Kd.C_below HR.out HEX.out.below) x hxr.1 hxr.2
     cases e7
     have HXR := Aside0.mk hxr
     have HIB := Aside0.mk hb1
     have HNXT := Aside0.mk hbq
     have HGK3 := Aside0.mk (show pc.length - u ≤ gk ∧ u < pc.length from ⟨HA3.out.2.1, hlu⟩)
     have z0 := (blk_cell HTX.out 0).trans rfl
     have z1 := (blk_cell HTX.out 1).trans rfl
     have z2 := (blk_cell HTX.out 2).trans rfl
     clear hbq hb1 hxr HA3 hlu
     cases b with
     | true =>
      cases fr with
      | true =>
       go_wp2_with (first
        | (go_at_call 22; refine (spec_tyBall.calls (rd l0_2 x) true _ HIB.out).mono ?_; rintro e w6 ⟨rfl, ⟨nd, rfl⟩⟩; (have hb9 := (Drawn0.below (w := wr) ⟨nd, rfl⟩)); (have HE6 := Aside0.mk (HEX.out.step hb9)); (have HO6 := Aside0.mk (Kd.N_below HOX.out hb9)); (have HL6 := Aside0.mk (Kd.V_below HLX.out hb9)); (have HT6 := Aside0.mk ((hb9.block gt (blk_lt HTX.out)).trans HTX.out)); clear hb9 hx3 hx7 z0 z1 z2 HEX HOX HLX HTX HIB p3 p4 c3; (have z0 := (blk_cell HT6.out 0).trans rfl); (have z1 := (blk_cell HT6.out 1).trans rfl); (have z2 := (blk_cell HT6.out 2).trans rfl)))
       have hnx := HNXT.out
       simp only [if_true] at hnx
       split at hnx
       case isFalse => cases hnx
       rename_i hcn
       have HCN := Aside0.mk hcn
       have HN2 := Aside0.mk hnx
       have p7 : (0 ≤ wrap64 ((u : Int) - 1)) = True := eq_true hcn.1
       have p8 : (wrap64 ((u : Int) - 1) < (pc.length : Int)) = True := eq_true hcn.2.1
       have p9 : (0 ≤ rd pc (wrap64 ((u : Int) - 1))) = True := eq_true hcn.2.2.1
       have p10 : (rd pc (wrap64 ((u : Int) - 1)) < (l0_2.length : Int)) = True := eq_true hcn.2.2.2
       obtain ⟨ad8, e8, hx8⟩ := Kd.at_int (Kd.V_reads' HL6.out).2.2 (wrap64 ((u : Int) - 1)) hcn.1 hcn.2.1
       cases e8
       obtain ⟨ad9, e9, hx9⟩ := Kd.at_int (Kd.C_below HR.out HE6.out.below) x HXR.out.1 HXR.out.2
       cases e9
       have y0 := (blk_cell HE6.out.out 0).trans rfl
       have y1 := (blk_cell HE6.out.out 1).trans rfl
       have y2 := (blk_cell HE6.out.out 2).trans rfl
       obtain ⟨_, fz⟩ := Kd.R_celln 0 HE6.out.row (rd pc (wrap64 ((u : Int) - 1))) hcn.2.2.1 (by have e := HE6.out.len; omega)
       clear hcn hnx HNXT
       generalize wr.drewN nd = w6 at *
       go_region
       have HE7 := Aside0.mk ((HE6.out.set (rd pc (wrap64 ((u : Int) - 1))) (rd l0_2 x)).step (Below.drew (Below.refl _ _)))
       have HO7 := Aside0.mk (Kd.N_below (Kd.N_far HO6.out (p := ⟨gb, (rd pc (wrap64 ((u : Int) - 1))).toNat, none⟩) (fun k hk => Nat.ne_of_gt (Nat.lt_of_lt_of_le HWM.out.1 hk)) (.int .u8 (rd l0_2 x))) (Below.drew (Below.refl _ _)))
       have HL7 := Aside0.mk (Kd.V_below (Kd.V_far HL6.out (p := ⟨gb, (rd pc (wrap64 ((u : Int) - 1))).toNat, none⟩) (fun k hk => Nat.ne_of_gt (Nat.lt_of_lt_of_le HWM.out.1 hk)) (.int .u8 (rd l0_2 x))) (Below.drew (Below.refl _ _)))
       have HTB : gt ≠ gb := fun e => Kd.R_ne HE6.out.row HT6.out (by decide) (by rw [e]; rfl)
       have HT7 := Aside0.mk (blk_drew (blk_far (p := ⟨gb, (rd pc (wrap64 ((u : Int) - 1))).toNat, none⟩) HT6.out HTB (.int .u8 (rd l0_2 x))))
       clear z0 z1 z2 y0 y1 y2 fz hx8 hx9 HE6 HO6 HL6 HT6
       generalize (w6.setCell ⟨gb, (rd pc (wrap64 ((u : Int) - 1))).toNat, none⟩ (.int .u8 (rd l0_2 x))).drew = w7 at *
       have y0 := (blk_cell HE7.out.out 0).trans rfl
       have y1 := (blk_cell HE7.out.out 1).trans rfl
       have y2 := (blk_cell HE7.out.out 2).trans rfl
       obtain ⟨_, fz⟩ := Kd.R_celln 0 HE7.out.row x HXR.out.1 (by have e := HE7.out.len; have := HXR.out; omega)
       go_wp2
       go_roundg (pc.length - (u + 1))
       case measure => have := HGK3.out; omega
       case rel => exact ⟨u + 1, true, _, rfl, by first | rfl | rw [wrap64_nat u (by have := HGK3.out; have := HPC.out; omega)] | simp, ⟨by have := HGK3.out; omega, Nat.le_refl _, HN2.out⟩, ⟨HE7.out.set x 46⟩, ⟨Kd.N_far HO7.out (fun k hk => Nat.ne_of_gt (Nat.lt_of_lt_of_le HWM.out.1 hk)) _⟩, ⟨Kd.V_far HL7.out (fun k hk => Nat.ne_of_gt (Nat.lt_of_lt_of_le HWM.out.1 hk)) _⟩, ⟨blk_far (p := ⟨gb, x.toNat, none⟩) HT7.out HTB _⟩⟩
      | false =>
       go_wp2_with (first
        | (go_at_call 22; refine (spec_tyBall.calls (rd l0_2 x) true _ HIB.out).mono ?_; rintro e w6 ⟨rfl, ⟨nd, rfl⟩⟩; (have hb9 := (Drawn0.below (w := wr) ⟨nd, rfl⟩)); (have HE6 := Aside0.mk (HEX.out.step hb9)); (have HO6 := Aside0.mk (Kd.N_below HOX.out hb9)); (have HL6 := Aside0.mk (Kd.V_below HLX.out hb9)); (have HT6 := Aside0.mk ((hb9.block gt (blk_lt HTX.out)).trans HTX.out)); clear hb9 hx3 hx7 z0 z1 z2 HEX HOX HLX HTX HIB p3 p4 c3; (have z0 := (blk_cell HT6.out 0).trans rfl); (have z1 := (blk_cell HT6.out 1).trans rfl); (have z2 := (blk_cell HT6.out 2).trans rfl)))
       have hnx := HNXT.out
       simp only [if_true, if_false, Bool.false_eq_true] at hnx
       have HN2 := Aside0.mk hnx
       clear hnx HNXT z0 z1 z2
       try go_wp2
       go_roundg (pc.length - (u + 1))
       case measure => have := HGK3.out; omega
       case rel => exact ⟨u + 1, false, o3, rfl, by first | rfl | rw [wrap64_nat u (by have := HGK3.out; have := HPC.out; omega)] | simp, ⟨by have := HGK3.out; omega, Nat.le_refl _, HN2.out⟩, HE6, HO6, HL6, HT6⟩
     | false =>
      go_wp2_with (first
        | (go_at_call 22; refine (spec_tyBall.calls (rd l0_2 x) false _ HIB.out).mono ?_; rintro e w6 ⟨rfl, ⟨nd, rfl⟩⟩; (have hb9 := (Drawn0.below (w := wr) ⟨nd, rfl⟩)); (have HE6 := Aside0.mk (HEX.out.step hb9)); (have HO6 := Aside0.mk (Kd.N_below HOX.out hb9)); (have HL6 := Aside0.mk (Kd.V_below HLX.out hb9)); (have HT6 := Aside0.mk ((hb9.block gt (blk_lt HTX.out)).trans HTX.out)); clear hb9 hx3 hx7 z0 z1 z2 HEX HOX HLX HTX HIB p3 p4 c3; (have z0 := (blk_cell HT6.out 0).trans rfl); (have z1 := (blk_cell HT6.out 1).trans rfl); (have z2 := (blk_cell HT6.out 2).trans rfl)))
      have hnx := HNXT.out
      simp only [if_true, if_false, Bool.false_eq_true] at hnx
      have HN2 := Aside0.mk hnx
      clear hnx HNXT z0 z1 z2
      try go_wp2
      go_roundg (pc.length - (u + 1))
      case measure => have := HGK3.out; omega
      case rel => exact ⟨u + 1, true, o3, rfl, by first | rfl | rw [wrap64_nat u (by have := HGK3.out; have := HPC.out; omega)] | simp, ⟨by have := HGK3.out; omega, Nat.le_refl _, HN2.out⟩, HE6, HO6, HL6, HT6⟩
    ·obtain rfl : u = pc.length := by have := HA3.out.1; omega
     have c3 : decide ((pc.length : Int) < (pc.length : Int)) = false := decide_eq_false (by omega)
     have he := HA3.out.2.2
     rw [List.drop_length] at he
     obtain rfl : o3 = m2 := Option.some.inj he
     clear he HA3 hlu
     go_wp2
     go_roundg (P.length - (i + 1))
     case measure => have := HGK2.out; omega
     case rel => exact ⟨i + 1, o3, by first | rfl | rw [wrap64_nat i (by have := HGK2.out; have := HLEN.out; omega)] | simp, ⟨by have := HGK2.out; omega, Nat.le_refl _, HSP.out⟩, HEX, HOX, HTX⟩
  ·obtain rfl : i = P.length := by have := HA.out.1; omega
   have c2 : decide ((P.length : Int) < (P.length : Int)) = false := decide_eq_false (by omega)
   have he := HA.out.2.2
   rw [List.drop_length] at he
   obtain rfl : out = res := Option.some.inj he
   clear he HA hli HO HT
   have y0 := (blk_cell HE.out.out 0).trans rfl
   have y1 := (blk_cell HE.out.out 1).trans rfl
   have y2 := (blk_cell HE.out.out 2).trans rfl
   have r0 := (blk_cell HE.out.res 0).trans rfl
   have r1 := (blk_cell HE.out.res 1).trans rfl
   have r2 := (blk_cell HE.out.res 2).trans rfl
   have g0 := blk_frozen HE.out.res 0
   have g1 := blk_frozen HE.out.res 1
   have g2 := blk_frozen HE.out.res 2
   go_wp2_with fail
   have hol : l0_2.length = out.length := HE.out.len.symm
   refine bodyPost_ret (results_cell_row rfl _ _ gr 29 #[.int .i64 a0_0, .int .i64 a0_1, .slice (some ⟨gb, 0, none⟩) l0_2.length c] (0, 0) _ rfl (by refine blk_put (cs := #[.int .i64 a0_0, .int .i64 a0_1, .slice none 0 0]) ?_ 2 _ rfl; refine blk_put (cs := #[.int .i64 a0_0, .int .i64 0, .slice none 0 0]) ?_ 1 _ rfl; refine blk_put (cs := #[.int .i64 0, .int .i64 0, .slice none 0 0]) ?_ 0 _ rfl; exact HE.out.res) Tryz.underlying29 rfl (by kernel_rfl)) rfl ?_
   exact ⟨_, rfl, Kd.R_mono (Kd.R_far (p := ⟨gr, 2, none⟩) (Kd.R_far (p := ⟨gr, 1, none⟩) (Kd.R_far (p := ⟨gr, 0, none⟩) (Kd.R_types HE.out.row HE.out.res (by decide)) (fun _ hk => hk.2) (.int .i64 a0_0)) (fun _ hk => hk.2) (.int .i64 a0_1)) (fun _ hk => hk.2) (.slice (some ⟨gb, 0, none⟩) l0_2.length c)) (fun _ _ => trivial), below_set (below_set (below_set HE.out.below HE.out.gr0) HE.out.gr0) HE.out.gr0⟩
end Go.Proofs.YtcpeldgnabfdmabGreatDoor.Q
end
section
namespace Go.Proofs.YtcpeldgnabfdmabGreatDoor.Q
open Go.RowKit Go.Shelf Go.Proofs.YtcpeldgnabfdmabGreatDoorW.PrintWords Go.Proofs.YtcpeldgnabfdmabGreatDoorW.PrintLast Go.Proofs.YtcpeldgnabfdmabGreatDoorW.PrintMore
set_option linter.unusedSectionVars false
theorem wrm (n : Nat) (h : n ≤ 100000) (h1 : 0 < n) : wrap64 ((n : Int) - 1) = ((n - 1 : Nat) : Int) := by unfold wrap64; omega
theorem ahead_rd (s pre l : List Int) (x p : Int) (hs : s = pre ++ x :: l) (hp : ∀ h : pre ≠ [], p = pre.getLast h) (hl : s.length ≤ 1000) (room : Bool) (hr : room = true → pre ≠ []) :
  wrap64 ((pre.length : Int) - bitI room) = ((pre.length - (if room = true then 1 else 0) : Nat) : Int) ∧ pre.length - (if room = true then 1 else 0) < s.length ∧ rd s (wrap64 ((pre.length : Int) - bitI room)) = if room = true then p else x := by
 have hlen : pre.length < s.length := by rw [hs, List.length_append, List.length_cons]; omega
 cases room with
 | true =>
  have hne := hr rfl
  have hpp := List.length_pos_iff.2 hne
  have h1 : wrap64 ((pre.length : Int) - bitI true) = ((pre.length - 1 : Nat) : Int) := wrm _ (by omega) hpp
  refine ⟨h1, by simp; omega, ?_⟩
  rw [h1, rd_nat s _ (by omega), if_pos rfl, hp hne, List.getLast_eq_getElem]
  simp only [hs]
  rw [List.getElem_append_left (by omega)]
 | false =>
  have h1 : wrap64 ((pre.length : Int) - bitI false) = ((pre.length : Nat) : Int) := by
   show wrap64 ((pre.length : Int) - 0) = _
   rw [Int.sub_zero]
   exact w64 (by omega) (by omega)
  refine ⟨h1, by simpa using hlen, ?_⟩
  rw [h1, rd_nat s _ hlen, if_neg (by decide)]
  simp [hs]
theorem spC_eq (cs s : List Int) (hc : cs.length ≤ 1000) (hx : ∀ x ∈ s, 0 ≤ x ∧ x < (cs.length : Int)) (hsl : s.length ≤ 1000) : ∀ (l pre : List Int) (p : Int) (room : Bool) (m : List (Int × Int)), s = pre ++ l → (∀ h : pre ≠ [], p = pre.getLast h) → (room = true → pre ≠ []) → m.length + l.length ≤ 1000 → spC cs s l pre.length room m = some ((stepPairs cs l p room).reverse ++ m)
 | [], _, _, _, _, _, _, _, _ => by
  unfold spC stepPairs
  rfl
 | x :: l, pre, p, room, m, hs, hp, hr, hm => by
  have hs2 : s = (pre ++ [x]) ++ l := by rw [hs]; simp
  have hlast : ∀ h : pre ++ [x] ≠ [], x = (pre ++ [x]).getLast h := fun h => by simp
  have hl2 : (pre ++ [x]).length = pre.length + 1 := by simp
  obtain ⟨x0, x1⟩ := hx x (by rw [hs]; simp)
  obtain ⟨a1, a2, a3⟩ := ahead_rd s pre l x p hs hp hsl room hr
  simp only [List.length_cons] at hm
  unfold spC stepPairs
  rw [if_pos ⟨x0, x1, by omega⟩, isBall_eq, Option.bind_some]
  by_cases hb : bI cs x = true
  ·have hin : rd s (wrap64 ((pre.length : Int) - bitI room)) ∈ s := by rw [a1, rd_nat s _ a2]; exact List.getElem_mem _
   obtain ⟨r0, r1⟩ := hx _ hin
   rw [if_pos (show isB (rd cs x) = true from hb), if_pos hb, if_pos ⟨by rw [a1]; omega, by rw [a1]; omega, r0, by omega, by omega⟩, ← hl2, spC_eq cs s hc hx hsl l (pre ++ [x]) x _ _ hs2 hlast (fun _ => by simp) (by simp only [List.length_cons]; omega), a3, List.reverse_cons, List.append_assoc, List.singleton_append]
  ·rw [if_neg (show ¬ isB (rd cs x) = true from hb), if_neg hb, ← hl2]
   exact spC_eq cs s hc hx hsl l (pre ++ [x]) x _ _ hs2 hlast (fun _ => by simp) (by omega)
theorem stepPairs_len (cs : List Int) (l : List Int) (p : Int) (room : Bool) : (stepPairs cs l p room).length ≤ l.length := by
 have h := congrArg List.length (stepPairs_fst cs l p room)
 rw [List.length_map] at h
 rw [h]
 exact List.length_filter_le _ _
theorem spP_eq (cs : List Int) (hc : cs.length ≤ 1000) : ∀ (P : List (List Int)) (m : List (Int × Int)), (∀ s ∈ P, ∀ x ∈ s, 0 ≤ x ∧ x < (cs.length : Int)) → m.length + P.flatten.length ≤ 1000 → spP cs P m = some ((stepP cs P).reverse ++ m)
 | [], m, _, _ => rfl
 | s :: P, m, hx, hl => by
  rw [List.flatten_cons, List.length_append] at hl
  have h3 := stepPairs_len cs s 0 false
  unfold spP
  rw [if_pos (by omega), show spC cs s s 0 false m = _ from spC_eq cs s hc (hx s List.mem_cons_self) (by omega) s [] 0 false m rfl (fun h => absurd rfl h) (fun h => by cases h) (by omega), Option.bind_some]
  show spP cs P ((stepPairs cs s 0 false).reverse ++ m) = _
  rw [spP_eq cs hc P _ (fun t ht => hx t (List.mem_cons_of_mem _ ht)) (by rw [List.length_append, List.length_reverse]; omega)]
  unfold stepP
  rw [List.flatMap_cons, List.reverse_append, List.append_assoc]
theorem tsC_eq (cs s : List Int) (hx : ∀ x ∈ s, 0 ≤ x ∧ x < (cs.length : Int)) (hsl : s.length ≤ 1000) : ∀ (l pre : List Int) (p : Int) (fr : Bool) (out : List Int), s = pre ++ l → (∀ h : pre ≠ [], p = pre.getLast h) → (fr = true → pre ≠ []) → tsC cs s l pre.length fr out = some (specS cs l p fr out)
 | [], _, _, _, _, _, _, _ => by
  unfold tsC specS
  rfl
 | x :: l, pre, p, fr, out, hs, hp, hr => by
  have hs2 : s = (pre ++ [x]) ++ l := by rw [hs]; simp
  have hlast : ∀ h : pre ++ [x] ≠ [], x = (pre ++ [x]).getLast h := fun h => by simp
  have hl2 : (pre ++ [x]).length = pre.length + 1 := by simp
  obtain ⟨x0, x1⟩ := hx x (by rw [hs]; simp)
  unfold tsC specS
  rw [if_pos ⟨x0, x1⟩, tyBall_eq, Option.bind_some]
  by_cases hb : bI cs x = true
  ·rw [if_pos (show isB (rd cs x) = true from hb), if_pos hb]
   by_cases hf : fr = true
   ·obtain ⟨a1, a2, a3⟩ := ahead_rd s pre l x p hs hp hsl fr hr
    subst hf
    have e1 : wrap64 ((pre.length : Int) - bitI true) = wrap64 ((pre.length : Int) - 1) := rfl
    rw [e1] at a1 a3
    rw [if_pos rfl] at a1 a2 a3
    have hin : rd s (wrap64 ((pre.length : Int) - 1)) ∈ s := by rw [a1, rd_nat s _ a2]; exact List.getElem_mem _
    obtain ⟨r0, r1⟩ := hx _ hin
    rw [if_pos rfl, if_pos rfl, if_pos ⟨by rw [a1]; omega, by rw [a1]; omega, r0, r1⟩, ← hl2, a3]
    exact tsC_eq cs s hx hsl l (pre ++ [x]) x _ _ hs2 hlast (fun _ => by simp)
   ·rw [if_neg hf, if_neg hf, ← hl2]
    exact tsC_eq cs s hx hsl l (pre ++ [x]) x _ _ hs2 hlast (fun _ => by simp)
  ·rw [if_neg (show ¬ isB (rd cs x) = true from hb), if_neg hb, ← hl2]
   exact tsC_eq cs s hx hsl l (pre ++ [x]) x _ _ hs2 hlast (fun _ => by simp)
theorem tsP_eq (cs : List Int) : ∀ (P : List (List Int)) (out : List Int), (∀ s ∈ P, s.length ≤ 1000 ∧ ∀ x ∈ s, 0 ≤ x ∧ x < (cs.length : Int)) → tsP cs P out = some (P.foldl (fun A s => specS cs s 0 false A) out)
 | [], _, _ => rfl
 | s :: P, out, hx => by
  obtain ⟨h1, h2⟩ := hx s List.mem_cons_self
  unfold tsP
  rw [if_pos h1, show tsC cs s s 0 false out = _ from tsC_eq cs s h2 h1 s [] 0 false out rfl (fun h => absurd rfl h) (fun h => by cases h), Option.bind_some, tsP_eq cs P _ fun t ht => hx t (List.mem_cons_of_mem _ ht)]
  rfl
section
variable {w h : Nat} {cs : List Int} (hw : w ≤ 7) (hh : h ≤ 7) (hs : w * h ≤ 36) {d : Nat} (hd : d < 4)
include hw hh hs hd
theorem stepped_ev (hw0 : 0 < w) (hh0 : 0 < h) (hn : cs.length = w * h) : Ev (fun k => impl_tray_stepped.f k w h cs (dirC d)) ((w : Int), (h : Int), stepC w h cs d) := by
 have hz : 0 < w * h := Nat.mul_pos hw0 hh0
 have h1 := cuts_many hw hh hs hd (cs := cs)
 have h2 : (strL w h cs d).length = (cutsL w h cs d).length := by unfold strL; exact List.length_mergeSort _
 have h3 := str_total hw hh hs hd hn
 refine Ev.bind (f := fun _ P => if P.length ≤ 1000 then (spP cs P []).bind fun m => if (0 < cs.length ∧ cs.length ≤ 1000) ∧ fitsB m cs.length = true then some ((w : Int), (h : Int), laidCells cs (emptyC cs) (asF m) (fun _ => true)) else none else none) (stretches_ev hw hh hs hd hw0 hh0 hn) (Ev.const ?_)
 rw [if_pos (by omega), spP_eq cs (by omega) _ [] (fun s hm => (str_in hw hh hs hd hn s hm).2) (by simp only [List.length_nil]; omega), List.append_nil, Option.bind_some, if_pos ⟨⟨by omega, by omega⟩, step_fits hw hh hs hd hn⟩]
 rfl
theorem tiStep_ev (hw0 : 0 < w) (hh0 : 0 < h) (hn : cs.length = w * h) (hc : cellsOK cs) : Ev (fun k => spec_tiStep.f k w h cs d) ((w : Int), (h : Int), stepC w h cs d) := by
 have hz : 0 < w * h := Nat.mul_pos hw0 hh0
 have h1 := cuts_many hw hh hs hd (cs := cs)
 have h2 : (strL w h cs d).length = (cutsL w h cs d).length := by unfold strL; exact List.length_mergeSort _
 have hin := str_in hw hh hs hd hn
 have hT := turns_all (w * h) (fun s A => specS cs s 0 false A) (fun s => cnt cs s) (fun s => stepL (cnt cs s)) (strL w h cs d) cs (fun s hm => by
  have hr : ∀ A : List Int, A.length = w * h → ∀ x ∈ s, 0 ≤ x ∧ x < (A.length : Int) := fun A hA x hx => by rw [hA, ← hn]; exact (hin s hm).2 x hx
  exact ⟨fun A hA hst => specS_lay cs s (str_nodup hw hh hs hd s hm) s [] 0 false A rfl (by simp [cnt]) (fun h => absurd rfl h) (str_plain hw hh hs hd hn hc s hm) (hr A hA) (by rw [hst]; simp [cnt, stepL]), fun A => specS_len _ _ _ _ _, fun A y hA y0 hy => specS_off cs s 0 false A y (hr A hA) (fun e => by cases e) y0 hy⟩)
  (str_flat hw hh hs hd) (fun s hm x hx => ((hin s hm).2 x hx).1) hn fun _ _ => rfl
 obtain ⟨c1, c2⟩ := stepC_cnt hw hh hs hd hn hc
 have he : (strL w h cs d).foldl (fun A s => specS cs s 0 false A) cs = stepC w h cs d := arr_ext hT.1 ((stepC_len hw hh hs hd).trans hn) (strL w h cs d) (fun s hm => by rw [hT.2.1 s hm, c1 s hm]) fun y y0 y1 hy => by rw [hT.2.2 y y0 hy, c2 y y0 y1 hy]
 refine Ev.congr (Ev.bind (f := fun _ (P : List (List Int)) => if P.length ≤ 1000 then (tsP cs P cs).bind fun out => some ((w : Int), (h : Int), out) else none) (tiStretches_ev hw hh hs hd hn) (Ev.const ?_)) fun k => if_pos ⟨by omega, by omega⟩
 rw [if_pos (by omega), tsP_eq cs _ _ hin, he, Option.bind_some]
end
end Go.Proofs.YtcpeldgnabfdmabGreatDoor.Q
end
section
namespace Go.Proofs.YtcpeldgnabfdmabGreatDoor.Q
open Go.RowKit Go.Shelf Go.Proofs.YtcpeldgnabfdmabGreatDoorW.PrintWords Go.Proofs.YtcpeldgnabfdmabGreatDoorW.PrintLast Go.Proofs.YtcpeldgnabfdmabGreatDoorW.PrintMore
attribute [local go_sem] Oper.semAt_some
def Kp2 (s3 s4 : Nat) (W W' : World) : Prop := W'.heap[s3]? = W.heap[s3]? ∧ W'.heap[s4]? = W.heap[s4]?
theorem Kp2.trans {s3 s4 : Nat} {A B C : World} (h : Kp2 s3 s4 A B) (k : Kp2 s3 s4 B C) : Kp2 s3 s4 A C := ⟨k.1.trans h.1, k.2.trans h.2⟩
theorem Kp2.refl {s3 s4 : Nat} {A : World} : Kp2 s3 s4 A A := ⟨rfl, rfl⟩
theorem range_snoc (k : Nat) : List.range (k + 1) = List.range k ++ [k] := List.range_succ
set_option maxRecDepth 100000 in
set_option maxHeartbeats 4000000 in
theorem chunk1_in (F : Fence) (n : Nat) (hf : F.fn 52) (hro : F.round = none) (hn : 1 ≤ n) (l Bs Bn b off len cap c m : Nat) (hc1 : 1 ≤ c) (hlen : len = m * c) (hsm : len ≤ 1000) (hcap : len ≤ cap) (J Jx : List Nat → World → Prop)
  (hJd : ∀ s W, J s W → J s W.drew)
  (hY : ∀ pre x W, J pre W → x < m → pre.length < m → YieldAt F (n - 1) Tryz.prog l #[.slice (some ⟨b, off + x * c, none⟩) c c] W fun e W' =>
   (e = .returned (.bool true) ∧ J (pre ++ [x]) W' ∧ Kp2 Bs Bn W W') ∨ (e = .returned (.bool false) ∧ Jx (pre ++ [x]) W'))
  (W : World) (hBs : W.heap[Bs]? = some (.cells #[.slice (some ⟨b, off, none⟩) len cap] 27 (0, 0))) (hBn : W.heap[Bn]? = some (.cells #[.int .i64 c] 3 (0, 0))) (h0 : J [] W) :
  CallsIn F n Tryz.prog 52 #[.func (.yield l) #[] #[], .pointer (some ⟨Bs, 0, none⟩), .pointer (some ⟨Bn, 0, none⟩)] W fun e W' => (∃ v, e = .returned v) ∧
   ((∃ ys, ys = List.range m ∧ J ys W') ∨ (∃ pre, (∃ k, k ≤ m ∧ pre = List.range k) ∧ Jx pre W')) := by
 refine callsIn_of_wp Tryz.func52 rfl hf ?_ hro
 simp only [Tryz.ntmps52, List.size_toArray, List.length_cons, List.length_nil, Nat.reduceAdd, Nat.reduceSub, Array.replicate_succ, Array.replicate_zero, List.push_toArray, List.append_toArray, List.nil_append, List.cons_append]
 gi_wp2
 have HL := Aside0.mk hlen
 clear hlen
 gi_loopw [4] (fun i wr => ∃ k q : Nat, Aside0 (k ≤ m ∧ q = k * c) ∧ i = .int .i64 (q : Int) ∧ J (List.range k) wr ∧ Kp2 Bs Bn W wr)
  (fun i _ => len - (intOf i).toNat)
 case atStart => exact ⟨0, 0, ⟨Nat.zero_le _, by simp⟩, by simp, h0, Kp2.refl⟩
 case round =>
  obtain ⟨k, q, HK, rfl, hJs, hnx⟩ := hrel
  have hs := hnx.1.trans hBs
  have hnn := hnx.2.trans hBn
  have cs : wr.cell? ⟨Bs, 0, none⟩ = some (.slice (some ⟨b, off, none⟩) len cap) := (blk_cell hs 0).trans rfl
  have cn : wr.cell? ⟨Bn, 0, none⟩ = some (.int .i64 c) := (blk_cell hnn 0).trans rfl
  by_cases hlt : k < m
  ·have hkc : q + c ≤ len := by rw [HL.out, HK.out.2, ← Nat.succ_mul]; exact Nat.mul_le_mul_right c hlt
   have c1 : decide ((q : Int) < (len : Int)) = true := decide_eq_true (by omega)
   have hmx : Tryz.prog.follows .mixedOrders = true := by kernel_rfl
   obtain ⟨fn, tmps, assign, body, hy, hR⟩ := hY _ k wr.drew (hJd _ _ hJs) hlt (by rw [List.length_range]; exact hlt)
   rw [← HK.out.2] at hy
   have hm1 : min (c : Int) ((len - q : Nat) : Int) = (c : Int) := by omega
   have hm2 : ((q : Int) + (c : Int)).toNat - q = c := by omega
   have hm3 : cap ≠ q := by omega
   have HKC := Aside0.mk hkc
   have HR := Aside0.mk hR
   clear hs hnn hJs hkc hR hY
   gi_wp2
   gi_region
   all_goals gi_wp2
   all_goals (try go_bits)
   all_goals
    refine HR.out.mono ?_
    rintro e W3 (⟨rfl, hJ3, hk3⟩ | ⟨rfl, hJx3⟩)
    ·have hnx3 : Kp2 Bs Bn W W3 := hnx.trans hk3
     have cn3 : W3.cell? ⟨Bn, 0, none⟩ = some (.int .i64 c) := (blk_cell (hnx3.2.trans hBn) 0).trans rfl
     gi_wp2
     go_roundw
     case rel => exact ⟨k + 1, q + c, ⟨by omega, by rw [HK.out.2, Nat.succ_mul]⟩, by simp, by rw [range_snoc]; exact hJ3, hnx3⟩
     case measure =>
      have := HKC.out
      simp [intOf]
      omega
    ·gi_wp2
     refine bodyPost_ret (results_none rfl _ _ _) rfl ?_
     exact ⟨⟨_, rfl⟩, .inr ⟨_, ⟨k + 1, by omega, (range_snoc k).symm⟩, hJx3⟩⟩
  ·have hkm : k = m := by have := HK.out.1; omega
   subst hkm
   have hql : q = len := by rw [HL.out, HK.out.2]
   subst hql
   have c1 : decide ((q : Int) < (q : Int)) = false := decide_eq_false (by omega)
   gi_wp2
   go_end0
   exact ⟨⟨_, rfl⟩, .inl ⟨_, rfl, hJs⟩⟩
end Go.Proofs.YtcpeldgnabfdmabGreatDoor.Q
end
section
namespace Go.Proofs.YtcpeldgnabfdmabGreatDoor.Q
open Go.RowKit Go.Shelf Go.Proofs.YtcpeldgnabfdmabGreatDoorW.PrintWords Go.Proofs.YtcpeldgnabfdmabGreatDoorW.PrintLast Go.Proofs.YtcpeldgnabfdmabGreatDoorW.PrintMore
attribute [local go_sem] Oper.semAt_some
set_option maxRecDepth 100000 in
set_option maxHeartbeats 4000000 in
theorem chunk_in (F : Fence) (n : Nat) (hf : F.fn 31) (hro : F.round = none) (A : Option Addr) (len cap : Nat) (c : Int) (hc : 1 ≤ c) (w : World) :
  CallsIn F n Tryz.prog 31 #[.slice A len cap, .int .i64 c] w fun e w' => e = .returned (.func (.func 52) #[] #[.pointer (some ⟨w.heap.size, 0, none⟩), .pointer (some ⟨w.heap.size + 1, 0, none⟩)]) ∧
   w' = (w.alloc (.cells #[.slice A len cap] 27)).alloc (.cells #[.int .i64 c] 3) := by
 refine callsIn_of_wp Tryz.func31 rfl hf ?_ hro
 simp only [Tryz.ntmps31, List.size_toArray, List.length_cons, List.length_nil, Nat.reduceAdd, Nat.reduceSub, Array.replicate_succ, Array.replicate_zero, List.push_toArray, List.append_toArray, List.nil_append, List.cons_append]
 have c1 : decide (c < 1) = false := decide_eq_false (by omega)
 gi_wp2
 go_ret
 exact ⟨rfl, rfl⟩
theorem chunk_stops (F : Fence) (n : Nat) (hf : F.fn 52) (hro : F.round = none) (hn : 1 ≤ n) (Bs Bn b off len cap c m : Nat) (hc1 : 1 ≤ c) (hlen : len = m * c) (hsm : len ≤ 1000) (hcap : len ≤ cap) (w : World)
  (hBs : w.heap[Bs]? = some (.cells #[.slice (some ⟨b, off, none⟩) len cap] 27 (0, 0))) (hBn : w.heap[Bn]? = some (.cells #[.int .i64 c] 3 (0, 0))) :
  SeqStopsK F n Tryz.prog 52 #[.pointer (some ⟨Bs, 0, none⟩), .pointer (some ⟨Bn, 0, none⟩)] (fun x : Fin m => #[Value.slice (some ⟨b, off + x.val * c, none⟩) c c]) (Kp2 Bs Bn) (fun ys => ys.map Fin.val = List.range m) (fun _ => True) m w := fun l J Jx W hW hJ _ hY h0 => by
 refine (chunk1_in F n hf hro hn l Bs Bn b off len cap c m hc1 hlen hsm hcap (fun pre W => ∃ ys : List (Fin m), ys.map Fin.val = pre ∧ J ys W) (fun pre W => ∃ ys : List (Fin m), Jx ys W) ?_ ?_ W ((hW.block Bs (blk_lt hBs)).trans hBs) ((hW.block Bn (blk_lt hBn)).trans hBn) ⟨[], rfl, h0⟩).mono ?_
 ·rintro s W1 ⟨ys, e, hs⟩
  exact ⟨ys, e, hJ ys W1 W1.drew none hs ⟨rfl, rfl, rfl, Nat.le_refl _, fun _ _ _ => rfl⟩ (fun r e => by cases e)⟩
 ·rintro pre x W1 ⟨ys, rfl, hs⟩ hx hl
  obtain ⟨fn, tmps, assign, body, hy, hR⟩ := hY ys ⟨x, hx⟩ W1 hs (by rw [List.length_map] at hl; exact hl)
  refine ⟨fn, tmps, assign, body, hy, hR.mono ?_⟩
  rintro e W' (⟨rfl, h1, h2⟩ | ⟨rfl, h1⟩)
  ·exact .inl ⟨rfl, ⟨_, by rw [List.map_append]; rfl, h1⟩, h2⟩
  ·exact .inr ⟨rfl, _, h1⟩
 ·rintro e W' ⟨he, ⟨ys, rfl, zs, e2, hj⟩ | ⟨pre, _, zs, hj⟩⟩
  ·exact ⟨he, .inl ⟨zs, e2, hj⟩⟩
  ·exact ⟨he, .inr ⟨zs, trivial, hj⟩⟩
def rowS (l : List Int) (c k : Nat) : ByteArray := strOfNums ((l.drop (k * c)).take c)
def impl_tray_text.f (w h : Int) (l : List Int) : Option ByteArray :=
 if 1 ≤ w ∧ 1 ≤ l.length ∧ l.length ≤ 1000 ∧ l.length = l.length / w.toNat * w.toNat then strings_Join.f ((List.range (l.length / w.toNat)).map (rowS l w.toNat)) ⟨#[47]⟩ else none
theorem row_len (l : List Int) (c k m : Nat) (hl : l.length = m * c) (hk : k < m) : ((l.drop (k * c)).take c).length = c := by
 rw [List.length_take, List.length_drop, hl]
 have : k * c + c ≤ m * c := by rw [← Nat.succ_mul]; exact Nat.mul_le_mul_right c hk
 omega
theorem row_at (l : List Int) (c k i : Nat) (hi : i < c) : ((l.drop (k * c)).take c).getD i 0 = l.getD (k * c + i) 0 := by
 rw [List.getD_eq_getElem?_getD, List.getElem?_take, if_pos hi, List.getElem?_drop, List.getD_eq_getElem?_getD]
theorem five {w X : World} {A B C D E : Obj} (h : X = ((((w.alloc A).alloc B).alloc C).alloc D).alloc E) : X.heap.size = w.heap.size + 5 ∧ Below w.heap.size w X ∧ X.heap[w.heap.size]? = some A ∧ X.heap[w.heap.size + 1]? = some B ∧ X.heap[w.heap.size + 1 + 1]? = some C ∧ X.heap[w.heap.size + 1 + 1 + 1]? = some D ∧ X.heap[w.heap.size + 1 + 1 + 1 + 1]? = some E := by
 subst h
 have g1 : ∀ (W : World) (o : Obj) (i : Nat) (x : Obj), W.heap[i]? = some x → (W.alloc o).heap[i]? = some x := fun W o i x hx => (Below.heap_alloc W o i (blk_lt hx)).trans hx
 have n1 := World.alloc_heap_new w A
 have n2 := World.alloc_heap_new (w.alloc A) B
 have n3 := World.alloc_heap_new ((w.alloc A).alloc B) C
 have n4 := World.alloc_heap_new (((w.alloc A).alloc B).alloc C) D
 have n5 := World.alloc_heap_new ((((w.alloc A).alloc B).alloc C).alloc D) E
 simp only [World.size_alloc] at n2 n3 n4 n5
 exact ⟨by simp only [World.size_alloc], ((((((Below.refl _ w).alloc (Nat.le_refl _) _).alloc (by simp only [World.size_alloc]; omega) _).alloc (by simp only [World.size_alloc]; omega) _).alloc (by simp only [World.size_alloc]; omega) _).alloc (by simp only [World.size_alloc]; omega) _), g1 _ _ _ _ (g1 _ _ _ _ (g1 _ _ _ _ (g1 _ _ _ _ n1))), g1 _ _ _ _ (g1 _ _ _ _ (g1 _ _ _ _ n2)), g1 _ _ _ _ (g1 _ _ _ _ n3), g1 _ _ _ _ n4, n5⟩
set_option maxRecDepth 100000 in
set_option maxHeartbeats 8000000 in
theorem text_in (n : Nat) (hn : 3 ≤ n) (a0_0 a0_1 : Int) (b off cap : Nat) (l : List Int) (c m : Nat) (r : ByteArray) (w : World) (hb : b < w.heap.size) (hcell : ∀ j, j < l.length → w.cell? ⟨b, off + j, none⟩ = some (.int .u8 (l.getD j 0))) (hcap : l.length ≤ cap) (hc1 : 1 ≤ c) (h00 : a0_0 = c) (hl : l.length = m * c) (hsm : l.length ≤ 1000)
  (hj : strings_Join.f ((List.range m).map (rowS l c)) ⟨#[47]⟩ = some r) :
  CallsIn Fence.wide n Tryz.prog 15 #[.agg #[.int .i64 a0_0, .int .i64 a0_1, .slice (some ⟨b, off, none⟩) l.length cap]] w fun e w' => e = .returned (.string r) ∧ Below w.heap.size w w' := by
 have hro : Fence.wide.round = none := rfl
 have h1 : 1 ≤ n := by omega
 refine callsIn_of_wp_marks Tryz.func15 rfl trivial ?_ hro
 simp only [Tryz.ntmps15, List.size_toArray, List.length_cons, List.length_nil, Nat.reduceAdd, Nat.reduceSub, Array.replicate_succ, Array.replicate_zero, List.push_toArray, List.append_toArray, List.nil_append, List.cons_append]
 have hu := Tryz.underlying35
 subst h00
 have HL := Aside0.mk hl
 have HCL := Aside0.mk hcell
 have HJ := Aside0.mk hj
 clear hl hcell hj
 gi_wp2_with (refine ⟨trivial, ?_⟩; gi_at_call 31; refine (chunk_in Fence.wide (n - 1) trivial hro _ _ _ _ (by omega) _).mono ?_; rintro e w' ⟨he, hw⟩; simp only [World.size_alloc] at he; subst he; (have HW := Aside0.mk hw); clear hw)
 obtain ⟨hsz, hB0, bA, bB, bC, bD, bE⟩ := five HW.out
 clear HW
 have hI : OwnFrom w'.heap.size (fun (pre : List (Fin m)) W => (∃ v, Boxed W (w.heap.size + 1 + 1) 48 v ∧ W.ownsRow w.heap.size 9 1 v pre.length (pre.map fun k => Value.string (rowS l c k.val)) ∧ True) ∧ (Boxed W (w.heap.size + 1 + 1 + 1) 27 (.slice (some ⟨b, off, none⟩) l.length cap) ∧ Boxed W (w.heap.size + 1 + 1 + 1 + 1) 3 (.int .i64 c)) ∧ Below w.heap.size w W) :=
  OwnFrom.and (Own.from (holdsRow_own w.heap.size (w.heap.size + 1 + 1) 48 9 1 (fun pre : List (Fin m) => pre.length) (fun pre => pre.map fun k => Value.string (rowS l c k.val)) (fun _ _ => True)) _)
   (OwnFrom.and (OwnFrom.and (Own.from (boxed_own (w.heap.size + 1 + 1 + 1) 27 (fun _ : List (Fin m) => Value.slice (some ⟨b, off, none⟩) l.length cap)) _) (Own.from (boxed_own (w.heap.size + 1 + 1 + 1 + 1) 3 (fun _ : List (Fin m) => Value.int .i64 c)) _)) (ownFrom_below (Nat.le_refl _) (by omega)))
 have row0 : w'.ownsRow w.heap.size 9 1 (.slice (some ⟨w.heap.size + 1, 0, none⟩) 0 0) 0 [] := ⟨rfl, .inr ⟨w.heap.size + 1, 0, #[], rfl, by omega, bB, Nat.le_refl _, Nat.zero_le _, rfl, rfl⟩⟩
 refine wpIn_rangeFunc_ownG hro h1 (gf := 52) (lb := #[.pointer (some ⟨w.heap.size + 1 + 1 + 1, 0, none⟩), .pointer (some ⟨w.heap.size + 1 + 1 + 1 + 1, 0, none⟩)]) rfl trivial (enters_of Tryz.func52 (by kernel_rfl) rfl)
  (chunk_stops Fence.wide (n - 1) trivial hro (by omega) _ _ b off l.length cap c m hc1 HL.out hsm hcap w' bD bE) Kp2.trans (fun W i o o' hi _ _ _ => ⟨World.putObj_heap_other (fun e => by omega), World.putObj_heap_other (fun e => by omega)⟩) (Below.refl _ _) (fun _ => rfl)
  _ (fun _ _ _ => False) hI (fun _ _ _ _ _ hs _ _ => hs) ⟨⟨_, bC, row0, trivial⟩, ⟨bD, bE⟩, hB0⟩
  (fun x => { tmps := #[.agg #[.int .i64 c, .int .i64 a0_1, .slice (some ⟨b, off, none⟩) l.length cap], .pointer (some ⟨w.heap.size, 0, none⟩), .string ⟨#[]⟩, .pointer (some ⟨w.heap.size + 1 + 1, 0, none⟩), .slice (some ⟨b, off + x.val * c, none⟩) c c, .slice (some ⟨w.heap.size + 1, 0, none⟩) 0 0, .pointer (some ⟨w.heap.size, 2, none⟩), .slice (some ⟨b, off, none⟩) l.length cap, .pointer (some ⟨w.heap.size, 0, none⟩), .int .i64 c, .func (.func 52) #[] #[.pointer (some ⟨w.heap.size + 1 + 1 + 1, 0, none⟩), .pointer (some ⟨w.heap.size + 1 + 1 + 1 + 1, 0, none⟩)], .slice (some ⟨b, off + x.val * c, none⟩) c c, undef, undef, undef, undef, undef, undef, undef], defers := [] }) ?assign ?body ?done ?stop
 case assign =>
  intro i x W K hK
  gi_wp2
  exact hK
 case body =>
  rintro i pre x W ⟨⟨v, hv, hrow, _⟩, ⟨hD, hE⟩, hB⟩ hlt
  have hc := hv.cell
  have hrl := row_len l c x.val m HL.out x.isLt
  have hcv := run_convert_bytes_arg (P := Tryz.prog) W 27 5 Tryz.underlying27 Tryz.underlying5 b (off + x.val * c) c c ((l.drop (x.val * c)).take c) hrl (fun j hj => by
   rw [row_at l c x.val j hj, Nat.add_assoc]
   exact (hB.cell (p := ⟨b, off + (x.val * c + j), none⟩) hb).trans (HCL.out (x.val * c + j) (by
    rw [HL.out]
    have : x.val * c + c ≤ m * c := by rw [← Nat.succ_mul]; exact Nat.mul_le_mul_right c x.isLt
    omega))) 9 Tryz.underlying9
  rw [show strOfNums ((l.drop (x.val * c)).take c) = rowS l c x.val from rfl] at hcv
  obtain ⟨i0, hi, hz0, hz1, hz2⟩ := info_parts info9
  have hpl : pre.length + 1 ≤ 1000 := by
   have : m ≤ m * c := Nat.le_mul_of_pos_right m hc1
   have := HL.out
   omega
  have HD := Aside0.mk hD
  have HE := Aside0.mk hE
  clear hD hE hrl
  gi_wp2_with (gi_at_builtin; refine wpListIn_append_own _ rfl _ _ 48 rfl w.heap.size 9 i0 (.string ⟨#[]⟩) 1 16 Tryz.underlying48 hi hz0 hz1 hz2 rfl (by decide) _ _ _ rfl (hrow.alloc _) ⟨W.heap.size, 0, none⟩ 1 1 [.string (rowS l c x.val)] rfl rfl (cell_one_new _ _ _) (by simp [Value.oneCell']) (by simp [maxLen]; omega) (by omega) (by have := hB.size; simp; omega) ?_; intro v' w1 hown' hgrow _; obtain ⟨g', cap', rfl⟩ := ownsRow_succ hown'; obtain ⟨hv1, hv2, hr2, hk2, hb2⟩ := hv.appended (by decide) hrow hB.size (by omega) hown' hgrow; have hc1 := hv1.cell; have hf1 := hv1.frozen)
  have hD2 := ((HD.out.alloc (.cells #[.string (rowS l c x.val)] 9)).kept hgrow (HD.out.not_row (by decide) hrow)).other (B' := w.heap.size + 1 + 1) (by omega) (.slice (some ⟨g', 0, none⟩) (pre.length + 1) cap')
  have hE2 := ((HE.out.alloc (.cells #[.string (rowS l c x.val)] 9)).kept hgrow (HE.out.not_row (by decide) hrow)).other (B' := w.heap.size + 1 + 1) (by omega) (.slice (some ⟨g', 0, none⟩) (pre.length + 1) cap')
  exact ⟨hk2.from _, ⟨hD2.trans HD.out.symm, hE2.trans HE.out.symm⟩, ⟨_, hv2, by simpa using hr2, trivial⟩, ⟨hD2, hE2⟩, hB.trans hb2⟩
 case done =>
  rintro D ys W hD hS ⟨⟨v, hv, hrow, _⟩, _, hB⟩ hK
  have hc := hv.cell
  have hrows : (ys.map fun k => Value.string (rowS l c k.val)) = ((List.range m).map (rowS l c)).map Value.string := by
   rw [← hS, List.map_map, List.map_map]
   rfl
  have hyl : ys.length = ((List.range m).map (rowS l c)).length := by
   have := congrArg List.length hS
   simpa using this
  rw [hrows, hyl] at hrow
  have hjn := HJ.out
  generalize (List.range m).map (rowS l c) = L at hrow hjn
  have HJ2 := Aside0.mk hjn
  clear HJ hjn
  have hR : Kd.R Kd.string 9 W w.heap.size (fun _ => True) v L := Kd.R_of_own (enc := Value.string) hrow (fun _ _ => trivial)
  obtain ⟨A, cp, rfl, hlc, hC⟩ := Kd.R_reads hR
  have HK := Aside0.mk hK
  have HB := Aside0.mk hB
  have HCC := Aside0.mk hC
  have HLC := Aside0.mk hlc
  clear hrows hyl hrow hR hK hB hC hlc hv hS
  gi_wp2_with (refine ⟨trivial, ?_⟩; gi_at_call 26; refine (callsIn_wide.2 (strings_Join.calls A cp L ⟨#[47]⟩ r _ HCC.out HLC.out HJ2.out)).mono ?_; rintro e W2 ⟨rfl, hb2⟩)
  have hK2 := (hb2.block D (blk_lt HK.out)).trans HK.out
  refine ⟨by simp, .inl ⟨_, _, rfl, run_takeDeferred hK2, ?_⟩⟩
  exact ⟨_, results_tmp rfl _ _ _, rfl, (below_then HB.out HB.out.size hb2).trans (belowK_b (w := w) (Nat.le_refl _) W2 D _ _ (by omega) hK2 rfl rfl)⟩
 case stop =>
  rintro D c' pre W _ _ h _
  exact h.elim
theorem impl_tray_text.calls (a0_0 a0_1 : Int) (A0_2 : Option Addr) (c0_2 : Nat) (l0_2 : List Int) (r : ByteArray) (w : World) (hr0_2 : Kd.C (Kd.int .u8) w A0_2 l0_2.length l0_2) (hc0_2 : l0_2.length ≤ c0_2) (h : impl_tray_text.f a0_0 a0_1 l0_2 = some r) :
  Calls Tryz.prog 15 #[.agg #[.int .i64 a0_0, .int .i64 a0_1, .slice A0_2 l0_2.length c0_2]] w fun e w' => e = .returned (.string r) ∧ Below w.heap.size w w' := by
 unfold impl_tray_text.f at h
 split at h
 case isFalse => cases h
 rename_i hc
 obtain ⟨h1, h2, h3, h4⟩ := hc
 obtain ⟨b, off, rfl, hb, hcell⟩ := bytes_at hr0_2 h2
 exact callsIn_wide.1 (text_in 3 (Nat.le_refl _) a0_0 a0_1 b off c0_2 l0_2 a0_0.toNat (l0_2.length / a0_0.toNat) r w hb hcell hc0_2 (by omega) (by omega) h4 h3 h)
end Go.Proofs.YtcpeldgnabfdmabGreatDoor.Q
end
section
namespace Go.Proofs.YtcpeldgnabfdmabGreatDoor.Q
set_option linter.unusedSectionVars false
open Go.RowKit Go.Proofs.YtcpeldgnabfdmabGreatDoorW.PrintWords Go.Proofs.YtcpeldgnabfdmabGreatDoorW.PrintLast Go.Proofs.YtcpeldgnabfdmabGreatDoorW.PrintMore
theorem text_val (w h : Nat) (l : List Int) (hw : 1 ≤ w) (hh : 1 ≤ h) (hs : w * h ≤ 36) (hn : l.length = w * h) : impl_tray_text.f w h l = some (tx l w h) := by
 have hd : l.length / w = h := by rw [hn, Nat.mul_div_cancel_left h (by omega)]
 unfold impl_tray_text.f
 have h1 : 1 ≤ w * h := Nat.mul_pos hw hh
 rw [Int.toNat_natCast, hd, if_pos ⟨by omega, by omega, by omega, by rw [hn, Nat.mul_comm]⟩]
 have h2 : ((List.range h).map (rowS l w)).map (·.data.toList) = (List.range h).map (rowL l w) := by
  rw [List.map_map]
  rfl
 have h4 : h ≤ w * h := Nat.le_mul_of_pos_left h hw
 have h5 := txL_len l w h
 have h6 : h * (w + 1) ≤ 72 := by rw [Nat.mul_add, Nat.mul_one, Nat.mul_comm]; omega
 have h7 : Lib.join (((List.range h).map (rowS l w)).map (·.data.toList)) (⟨#[47]⟩ : ByteArray).data.toList = txL l w h := by
  rw [h2]
  exact jn_join _
 unfold strings_Join.f
 rw [h7, List.length_map, List.length_range, if_pos ⟨by omega, by omega⟩]
 rfl
end Go.Proofs.YtcpeldgnabfdmabGreatDoor.Q
end
section
namespace Go.Proofs.YtcpeldgnabfdmabGreatDoor.Q
open Go.RowKit Go.Proofs.YtcpeldgnabfdmabGreatDoorW.PrintWords Go.Proofs.YtcpeldgnabfdmabGreatDoorW.PrintLast Go.Proofs.YtcpeldgnabfdmabGreatDoorW.PrintMore
attribute [local go_sem] max2_int min2_int max_two min_two max_three min_three max_four min_four
set_option linter.unusedVariables false
set_option linter.unusedSimpArgs false
def spec_tiRead.f (k : Nat) (a0 : ByteArray) (a1 : ByteArray) : Option (Int × Int × List Int × Int × Bool) := (spec_tyRead.f k a0).bind fun bt102 => ((spec_tiDir.f k a1).bind fun t109 => (if bt102.2.2.2 = true then (some (bt102.1, bt102.2.1, bt102.2.2.1, t109, decide (t109 ≥ 0))) else (some (bt102.1, bt102.2.1, bt102.2.2.1, t109, false))))
set_option maxHeartbeats 8000000 in
set_option maxRecDepth 100000 in
theorem spec_tiRead.calls (k : Nat) (a0 : ByteArray) (a1 : ByteArray) (r1 : Int) (r2 : Int) (r3 : List Int) (r4 : Int) (r5 : Bool) (w : World) (h : spec_tiRead.f k a0 a1 = some (r1, r2, r3, r4, r5)) :
  Calls Tryz.prog 9 #[.string a0, .string a1] w fun e w' => ∃ v2_ : Value, e = .returned (.tuple #[.agg #[.int .i64 r1, .int .i64 r2, v2_], .int .i64 r4, .bool r5]) ∧ Kd.R (Kd.int .u8) 5 w' w.heap.size (fun _ => True) v2_ r3 ∧ Below w.heap.size w w' := by
 have hu29 := Tryz.underlying29
 have HB := Aside0.mk (Below.refl w.heap.size w)
 have H : ((spec_tyRead.f k a0).bind fun bt102 => ((spec_tiDir.f k a1).bind fun t109 => (if bt102.2.2.2 = true then (some (bt102.1, bt102.2.1, bt102.2.2.1, t109, decide (t109 ≥ 0))) else (some (bt102.1, bt102.2.1, bt102.2.2.1, t109, false))))) = some (r1, r2, r3, r4, r5) := h
 clear h
 replace H := Option.bind_eq_some_iff.mp H
 obtain ⟨⟨t102, t103, t104, t107⟩, A30, H⟩ := H
 replace H : ((spec_tiDir.f k a1).bind fun t109 => (if t107 = true then (some (t102, t103, t104, t109, decide (t109 ≥ 0))) else (some (t102, t103, t104, t109, false)))) = some (r1, r2, r3, r4, r5) := H
 have A3 := Aside0.mk A30
 clear A30
 replace H := Option.bind_eq_some_iff.mp H
 obtain ⟨t109, A40, H⟩ := H
 replace H : (if t107 = true then (some (t102, t103, t104, t109, decide (t109 ≥ 0))) else (some (t102, t103, t104, t109, false))) = some (r1, r2, r3, r4, r5) := H
 have A4 := Aside0.mk A40
 clear A40
 by_cases c5 : t107 = true
 ·subst c5
  have H1 : (some (t102, t103, t104, t109, decide (t109 ≥ 0))) = some (r1, r2, r3, r4, r5) := by rw [if_pos rfl] at H; exact H
  clear H
  have H := H1
  clear H1
  simp only [Option.some.injEq, Prod.mk.injEq] at H
  obtain ⟨rfl, rfl, rfl, rfl, rfl⟩ := H
  go_enter Tryz.func9, Tryz.ntmps9
  go_wp2_with (first | ((with_reducible refine gate_dst (N := 4) rfl ?_); refine boxE (N := 4) (cs := #[.int .i64 0, .int .i64 0, .slice none 0 0]) (t := 29) ?_; intro gb101 hg w6 hbox hb; have n0_ := Aside0.mk (below_step (bel HB) hb); have n1_ := Aside0.mk (hbox); have n2_ := Aside0.mk (gsz hg (bel HB)); have n3_ := Aside0.mk (gsz hg (bel HB)); clear HB; have HB := n0_; have BK101 := n1_; have GW101 := n2_; have GE101 := n3_; clear n0_ n1_ n2_ n3_; clear hb hbox hg) | ((with_reducible refine gate_callee (f := 18) rfl ?_); refine gcall (some 12) Tryz.func18 #[.string a0] rfl ?_; (with_reducible refine (spec_tyRead.calls k a0 t102 t103 t104 true _ A3.out).mono ?_); rintro e w7 ⟨v105, rfl, ho0, hb⟩; refine ⟨_, rfl, ?_⟩; have n0_ := Aside0.mk (Kd.R_lower ho0 (below_size (bel HB))); have n1_ := Aside0.mk (blk_below (g := gb101) (o := .cells #[.int .i64 0, .int .i64 0, .slice none 0 0] 29 (0, 0)) blc hb); have n2_ := Aside0.mk (below_step (bel HB) hb); clear BK101; clear HB; have HO106 := n0_; have BK101 := n1_; have HB := n2_; clear n0_ n1_ n2_; (try clear hb); (try clear hb2); (try clear hk); (try clear hi); (try clear ho0)) | ((with_reducible refine gate_dst (N := 7) rfl ?_); refine boxE (N := 7) (cs := #[.int .i64 0, .int .i64 0, .slice none 0 0]) (t := 29) ?_; intro gb108 hg w8 hbox hb; have n0_ := Aside0.mk (Kd.R_below (rch HO106) hb); have n1_ := Aside0.mk (blk_below (g := gb101) (o := .cells #[.int .i64 0, .int .i64 0, .slice none 0 0] 29 (0, 0)) blc hb); have n2_ := Aside0.mk (below_step (bel HB) hb); have n3_ := Aside0.mk (hbox); have n4_ := Aside0.mk (gsz hg (bel HB)); have n5_ := Aside0.mk (gsz hg (bel HB)); have n6_ := Aside0.mk ((by rw [hg]; exact Nat.ne_of_lt (blk_lt (g := gb101) (o := .cells #[.int .i64 0, .int .i64 0, .slice none 0 0] 29 (0, 0)) blc) : gb101 ≠ gb108)); have n7_ := Aside0.mk ((by rw [hg]; exact Nat.ne_of_gt (blk_lt (g := gb101) (o := .cells #[.int .i64 0, .int .i64 0, .slice none 0 0] 29 (0, 0)) blc) : gb108 ≠ gb101)); clear HO106; clear BK101; clear HB; have HO106 := n0_; have BK101 := n1_; have HB := n2_; have BK108 := n3_; have GW108 := n4_; have GE108 := n5_; have NB101_108 := n6_; have NB108_101 := n7_; clear n0_ n1_ n2_ n3_ n4_ n5_ n6_ n7_; clear hb hbox hg; have hnb9 := NB108_101.out; have hnc9 := NB101_108.out; have hcz10_0 : w8.cell? ⟨gb108, 0, none⟩ = some (.int .i64 0) := (blk_cell BK108.out 0).trans rfl; have hcz10_1 : w8.cell? ⟨gb108, 1, none⟩ = some (.int .i64 0) := (blk_cell BK108.out 1).trans rfl; have hcz10_2 : w8.cell? ⟨gb108, 2, none⟩ = some (.slice none 0 0) := (blk_cell BK108.out 2).trans rfl; have hfz10_0 := blk_frozen BK108.out 0; have hfz10_1 := blk_frozen BK108.out 1; have hfz10_2 := blk_frozen BK108.out 2; obtain ⟨Ao11, co11, eo11⟩ := Kd.R_slice HO106.out; subst eo11) | ((with_reducible refine gate_callee (f := 19) rfl ?_); refine gcall (some 16) Tryz.func19 #[.string a1] rfl ?_; (with_reducible refine (spec_tiDir.calls k a1 t109 _ A4.out).mono ?_); rintro e w' ⟨rfl, ⟨nd, rfl⟩⟩; refine ⟨_, rfl, ?_⟩; have hcz12_0 : w8.cell? ⟨gb101, 0, none⟩ = some (.int .i64 0) := (blk_cell BK101.out 0).trans rfl; have hcz12_1 : w8.cell? ⟨gb101, 1, none⟩ = some (.int .i64 0) := (blk_cell BK101.out 1).trans rfl; have hcz12_2 : w8.cell? ⟨gb101, 2, none⟩ = some (.slice none 0 0) := (blk_cell BK101.out 2).trans rfl; have hfz12_0 := blk_frozen BK101.out 0; have hfz12_1 := blk_frozen BK101.out 1; have hfz12_2 := blk_frozen BK101.out 2))
  refine bodyPost_ret (results_ctt rfl _ _ gb101 29 #[.int .i64 t102, .int .i64 t103, .slice Ao11 t104.length co11] (0, 0) _ rfl (by (with_reducible repeat (first | refine blk_drewN ?_ _ | refine blk_drew ?_ | refine blk_alloc ?_ _)); refine blk_put (cs := #[.int .i64 t102, .int .i64 t103, .slice none 0 0]) ?_ 2 _ rfl; (with_reducible repeat (first | refine blk_drewN ?_ _ | refine blk_drew ?_ | refine blk_alloc ?_ _)); refine blk_put (cs := #[.int .i64 t102, .int .i64 0, .slice none 0 0]) ?_ 1 _ rfl; (with_reducible repeat (first | refine blk_drewN ?_ _ | refine blk_drew ?_ | refine blk_alloc ?_ _)); refine blk_put (cs := #[.int .i64 0, .int .i64 0, .slice none 0 0]) ?_ 0 _ rfl; (with_reducible repeat (first | refine blk_drewN ?_ _ | refine blk_drew ?_ | refine blk_alloc ?_ _)); refine blk_far ?_ NB101_108.out _; (with_reducible repeat (first | refine blk_drewN ?_ _ | refine blk_drew ?_ | refine blk_alloc ?_ _)); refine blk_far ?_ NB101_108.out _; (with_reducible repeat (first | refine blk_drewN ?_ _ | refine blk_drew ?_ | refine blk_alloc ?_ _)); refine blk_far ?_ NB101_108.out _; exact blc) Tryz.underlying29 rfl (by kernel_rfl)) rfl ?_
  exact ⟨_, by first | rfl | (simp [errW_none, errW_some] <;> rfl) | (simp [*, errW_none, errW_some] <;> rfl), by (with_reducible repeat (first | apply Kd.R_alloc | apply Kd.R_drewN | apply Kd.R_drew)); exact Kd.R_mono (Kd.R_far (p := ⟨gb101, 2, none⟩) (Kd.R_far (p := ⟨gb101, 1, none⟩) (Kd.R_far (p := ⟨gb101, 0, none⟩) (Kd.R_far (p := ⟨gb108, 2, none⟩) (Kd.R_far (p := ⟨gb108, 1, none⟩) (Kd.R_far (p := ⟨gb108, 0, none⟩) (Kd.R_types (Kd.R_types HO106.out BK108.out (by decide)) BK101.out (by decide)) (fun _ hk => hk.1.2) (.int .i64 t102)) (fun _ hk => hk.1.2) (.int .i64 t103)) (fun _ hk => hk.1.2) (.slice Ao11 t104.length co11)) (fun _ hk => hk.2) (.int .i64 t102)) (fun _ hk => hk.2) (.int .i64 t103)) (fun _ hk => hk.2) (.slice Ao11 t104.length co11)) (fun _ hk => trivial), bel HB⟩
 ·replace c5 := Bool.eq_false_iff.mpr c5
  subst c5
  have H1 : (some (t102, t103, t104, t109, false)) = some (r1, r2, r3, r4, r5) := by rw [if_neg (show ¬ (false = true) by decide)] at H; exact H
  clear H
  have H := H1
  clear H1
  simp only [Option.some.injEq, Prod.mk.injEq] at H
  obtain ⟨rfl, rfl, rfl, rfl, rfl⟩ := H
  go_enter Tryz.func9, Tryz.ntmps9
  go_wp2_with (first | ((with_reducible refine gate_dst (N := 4) rfl ?_); refine boxE (N := 4) (cs := #[.int .i64 0, .int .i64 0, .slice none 0 0]) (t := 29) ?_; intro gb101 hg w13 hbox hb; have n0_ := Aside0.mk (below_step (bel HB) hb); have n1_ := Aside0.mk (hbox); have n2_ := Aside0.mk (gsz hg (bel HB)); have n3_ := Aside0.mk (gsz hg (bel HB)); clear HB; have HB := n0_; have BK101 := n1_; have GW101 := n2_; have GE101 := n3_; clear n0_ n1_ n2_ n3_; clear hb hbox hg) | ((with_reducible refine gate_callee (f := 18) rfl ?_); refine gcall (some 12) Tryz.func18 #[.string a0] rfl ?_; (with_reducible refine (spec_tyRead.calls k a0 t102 t103 t104 false _ A3.out).mono ?_); rintro e w14 ⟨v105, rfl, ho0, hb⟩; refine ⟨_, rfl, ?_⟩; have n0_ := Aside0.mk (Kd.R_lower ho0 (below_size (bel HB))); have n1_ := Aside0.mk (blk_below (g := gb101) (o := .cells #[.int .i64 0, .int .i64 0, .slice none 0 0] 29 (0, 0)) blc hb); have n2_ := Aside0.mk (below_step (bel HB) hb); clear BK101; clear HB; have HO106 := n0_; have BK101 := n1_; have HB := n2_; clear n0_ n1_ n2_; (try clear hb); (try clear hb2); (try clear hk); (try clear hi); (try clear ho0)) | ((with_reducible refine gate_dst (N := 7) rfl ?_); refine boxE (N := 7) (cs := #[.int .i64 0, .int .i64 0, .slice none 0 0]) (t := 29) ?_; intro gb108 hg w15 hbox hb; have n0_ := Aside0.mk (Kd.R_below (rch HO106) hb); have n1_ := Aside0.mk (blk_below (g := gb101) (o := .cells #[.int .i64 0, .int .i64 0, .slice none 0 0] 29 (0, 0)) blc hb); have n2_ := Aside0.mk (below_step (bel HB) hb); have n3_ := Aside0.mk (hbox); have n4_ := Aside0.mk (gsz hg (bel HB)); have n5_ := Aside0.mk (gsz hg (bel HB)); have n6_ := Aside0.mk ((by rw [hg]; exact Nat.ne_of_lt (blk_lt (g := gb101) (o := .cells #[.int .i64 0, .int .i64 0, .slice none 0 0] 29 (0, 0)) blc) : gb101 ≠ gb108)); have n7_ := Aside0.mk ((by rw [hg]; exact Nat.ne_of_gt (blk_lt (g := gb101) (o := .cells #[.int .i64 0, .int .i64 0, .slice none 0 0] 29 (0, 0)) blc) : gb108 ≠ gb101)); clear HO106; clear BK101; clear HB; have HO106 := n0_; have BK101 := n1_; have HB := n2_; have BK108 := n3_; have GW108 := n4_; have GE108 := n5_; have NB101_108 := n6_; have NB108_101 := n7_; clear n0_ n1_ n2_ n3_ n4_ n5_ n6_ n7_; clear hb hbox hg; have hnb16 := NB108_101.out; have hnc16 := NB101_108.out; have hcz17_0 : w15.cell? ⟨gb108, 0, none⟩ = some (.int .i64 0) := (blk_cell BK108.out 0).trans rfl; have hcz17_1 : w15.cell? ⟨gb108, 1, none⟩ = some (.int .i64 0) := (blk_cell BK108.out 1).trans rfl; have hcz17_2 : w15.cell? ⟨gb108, 2, none⟩ = some (.slice none 0 0) := (blk_cell BK108.out 2).trans rfl; have hfz17_0 := blk_frozen BK108.out 0; have hfz17_1 := blk_frozen BK108.out 1; have hfz17_2 := blk_frozen BK108.out 2; obtain ⟨Ao18, co18, eo18⟩ := Kd.R_slice HO106.out; subst eo18) | ((with_reducible refine gate_callee (f := 19) rfl ?_); refine gcall (some 16) Tryz.func19 #[.string a1] rfl ?_; (with_reducible refine (spec_tiDir.calls k a1 t109 _ A4.out).mono ?_); rintro e w' ⟨rfl, ⟨nd, rfl⟩⟩; refine ⟨_, rfl, ?_⟩; have hcz19_0 : w15.cell? ⟨gb101, 0, none⟩ = some (.int .i64 0) := (blk_cell BK101.out 0).trans rfl; have hcz19_1 : w15.cell? ⟨gb101, 1, none⟩ = some (.int .i64 0) := (blk_cell BK101.out 1).trans rfl; have hcz19_2 : w15.cell? ⟨gb101, 2, none⟩ = some (.slice none 0 0) := (blk_cell BK101.out 2).trans rfl; have hfz19_0 := blk_frozen BK101.out 0; have hfz19_1 := blk_frozen BK101.out 1; have hfz19_2 := blk_frozen BK101.out 2))
  refine bodyPost_ret (results_ctt rfl _ _ gb101 29 #[.int .i64 t102, .int .i64 t103, .slice Ao18 t104.length co18] (0, 0) _ rfl (by (with_reducible repeat (first | refine blk_drewN ?_ _ | refine blk_drew ?_ | refine blk_alloc ?_ _)); refine blk_put (cs := #[.int .i64 t102, .int .i64 t103, .slice none 0 0]) ?_ 2 _ rfl; (with_reducible repeat (first | refine blk_drewN ?_ _ | refine blk_drew ?_ | refine blk_alloc ?_ _)); refine blk_put (cs := #[.int .i64 t102, .int .i64 0, .slice none 0 0]) ?_ 1 _ rfl; (with_reducible repeat (first | refine blk_drewN ?_ _ | refine blk_drew ?_ | refine blk_alloc ?_ _)); refine blk_put (cs := #[.int .i64 0, .int .i64 0, .slice none 0 0]) ?_ 0 _ rfl; (with_reducible repeat (first | refine blk_drewN ?_ _ | refine blk_drew ?_ | refine blk_alloc ?_ _)); refine blk_far ?_ NB101_108.out _; (with_reducible repeat (first | refine blk_drewN ?_ _ | refine blk_drew ?_ | refine blk_alloc ?_ _)); refine blk_far ?_ NB101_108.out _; (with_reducible repeat (first | refine blk_drewN ?_ _ | refine blk_drew ?_ | refine blk_alloc ?_ _)); refine blk_far ?_ NB101_108.out _; exact blc) Tryz.underlying29 rfl (by kernel_rfl)) rfl ?_
  exact ⟨_, by first | rfl | (simp [errW_none, errW_some] <;> rfl) | (simp [*, errW_none, errW_some] <;> rfl), by (with_reducible repeat (first | apply Kd.R_alloc | apply Kd.R_drewN | apply Kd.R_drew)); exact Kd.R_mono (Kd.R_far (p := ⟨gb101, 2, none⟩) (Kd.R_far (p := ⟨gb101, 1, none⟩) (Kd.R_far (p := ⟨gb101, 0, none⟩) (Kd.R_far (p := ⟨gb108, 2, none⟩) (Kd.R_far (p := ⟨gb108, 1, none⟩) (Kd.R_far (p := ⟨gb108, 0, none⟩) (Kd.R_types (Kd.R_types HO106.out BK108.out (by decide)) BK101.out (by decide)) (fun _ hk => hk.1.2) (.int .i64 t102)) (fun _ hk => hk.1.2) (.int .i64 t103)) (fun _ hk => hk.1.2) (.slice Ao18 t104.length co18)) (fun _ hk => hk.2) (.int .i64 t102)) (fun _ hk => hk.2) (.int .i64 t103)) (fun _ hk => hk.2) (.slice Ao18 t104.length co18)) (fun _ hk => trivial), bel HB⟩
def impl_isTilted.f (k : Nat) (a0 : ByteArray) (a1 : ByteArray) : Option (Bool) := (impl_IsTray.f k a0).bind fun t101 => (if t101 = true then ((impl_isDir.f a1).bind fun t102 => (some t102)) else (some false))
set_option maxHeartbeats 8000000 in
set_option maxRecDepth 100000 in
theorem impl_isTilted.calls (k : Nat) (a0 : ByteArray) (a1 : ByteArray) (r : Bool) (w : World) (hG : GoodW w) (h : impl_isTilted.f k a0 a1 = some r) :
  Calls Tryz.prog 12 #[.string a0, .string a1] w fun e w' => e = .returned (.bool r) ∧ Below w.heap.size w w' := by
 have HG := Aside0.mk hG
 clear hG
 have HB := Aside0.mk (Below.refl w.heap.size w)
 have H : ((impl_IsTray.f k a0).bind fun t101 => (if t101 = true then ((impl_isDir.f a1).bind fun t102 => (some t102)) else (some false))) = some r := h
 clear h
 replace H := Option.bind_eq_some_iff.mp H
 obtain ⟨t101, A30, H⟩ := H
 replace H : (if t101 = true then ((impl_isDir.f a1).bind fun t102 => (some t102)) else (some false)) = some r := H
 have A3 := Aside0.mk A30
 clear A30
 by_cases c4 : t101 = true
 ·subst c4
  have H1 : ((impl_isDir.f a1).bind fun t102 => (some t102)) = some r := by rw [if_pos rfl] at H; exact H
  clear H
  have H := H1
  clear H1
  replace H := Option.bind_eq_some_iff.mp H
  obtain ⟨t102, A50, H⟩ := H
  replace H : (some t102) = some r := H
  have A5 := Aside0.mk A50
  clear A50
  obtain rfl := Option.some.inj H
  go_enter Tryz.func12, Tryz.ntmps12
  go_wp2_with (first | ((with_reducible refine gate_callee (f := 23) rfl ?_); refine gcall (some 6) Tryz.func23 #[.string a0] rfl ?_; (with_reducible refine (impl_IsTray.calls k a0 true _ ?side1 A3.out).mono ?_); (case side1 => (refine GoodW.below HG.out ?_); exact bel HB); rintro e w6 ⟨rfl, hb⟩; refine ⟨_, rfl, ?_⟩; have n0_ := Aside0.mk (below_step (bel HB) hb); clear HB; have HB := n0_; clear n0_; (try clear hb); (try clear hb2); (try clear hk); (try clear hi)) | (go_at_call 24; (with_reducible refine (impl_isDir.calls a1 t102 _ A5.out).mono ?_); rintro e w' ⟨rfl, ⟨nd, rfl⟩⟩))
  go_ret
  exact ⟨by first | rfl | (simp [errW_none, errW_some] <;> rfl) | (simp [*, errW_none, errW_some] <;> rfl), bel HB⟩
 ·replace c4 := Bool.eq_false_iff.mpr c4
  subst c4
  have H1 : (some false) = some r := by rw [if_neg (show ¬ (false = true) by decide)] at H; exact H
  clear H
  have H := H1
  clear H1
  obtain rfl := Option.some.inj H
  go_enter Tryz.func12, Tryz.ntmps12
  go_wp2_with (first | ((with_reducible refine gate_callee (f := 23) rfl ?_); refine gcall (some 6) Tryz.func23 #[.string a0] rfl ?_; (with_reducible refine (impl_IsTray.calls k a0 false _ ?side1 A3.out).mono ?_); (case side1 => (refine GoodW.below HG.out ?_); exact bel HB); rintro e w7 ⟨rfl, hb⟩; refine ⟨_, rfl, ?_⟩; have n0_ := Aside0.mk (below_step (bel HB) hb); clear HB; have HB := n0_; clear n0_; (try clear hb); (try clear hb2); (try clear hk); (try clear hi)))
  go_ret
  exact ⟨by first | rfl | (simp [errW_none, errW_some] <;> rfl) | (simp [*, errW_none, errW_some] <;> rfl), bel HB⟩
end Go.Proofs.YtcpeldgnabfdmabGreatDoor.Q
end
section
namespace Go.Proofs.YtcpeldgnabfdmabGreatDoor.Q
set_option linter.unusedSectionVars false
open Go.RowKit Go.Proofs.YtcpeldgnabfdmabGreatDoorW.PrintWords Go.Proofs.YtcpeldgnabfdmabGreatDoorW.PrintLast Go.Proofs.YtcpeldgnabfdmabGreatDoorW.PrintMore
theorem isTilted_ev (t s : ByteArray) (ht : t.size ≤ 1048576) : Ev (fun k => impl_isTilted.f k t s) ((trayOf t).isSome && decide (0 ≤ dirI s)) := by
 refine Ev.bind (f := fun _ (t101 : Bool) => (if t101 = true then ((impl_isDir.f s).bind fun t102 => (some t102)) else (some false))) (isTray_ev t ht) (Ev.const ?_)
 by_cases h : (trayOf t).isSome = true
 ·rw [if_pos h, h, isDir_eq]
  rfl
 ·rw [if_neg h, Bool.eq_false_iff.2 h]
  rfl
theorem tiRead_ev (t s : ByteArray) : Ev (fun k => spec_tiRead.f k t s) (match trayOf t with | none => (0, 0, [], dirI s, false) | some (w, h, cs) => (w, h, cs, dirI s, decide (0 ≤ dirI s))) := by
 refine Ev.bind (f := fun k (bt102 : Int × Int × List Int × Bool) => ((spec_tiDir.f k s).bind fun t109 => (if bt102.2.2.2 = true then (some (bt102.1, bt102.2.1, bt102.2.2.1, t109, decide (t109 ≥ 0))) else (some (bt102.1, bt102.2.1, bt102.2.2.1, t109, false))))) (tyRead_ev t) ?_
 refine Ev.bind (tiDir_ev s) (Ev.const ?_)
 rcases trayOf t with _ | ⟨w, h, cs⟩
 ·rfl
 ·rfl
theorem dirI_nat {s : ByteArray} (h : 0 ≤ dirI s) : ∃ d : Nat, d < 4 ∧ dirI s = d ∧ s = ⟨#[dirB d]⟩ := by
 rcases dirI_cases s with ⟨e, _⟩ | ⟨d, hd4, e, e2⟩
 ·omega
 ·exact ⟨d, hd4, e, one_byte_of e2⟩
theorem bt_dir : ∀ d : Fin 4, (0 : Int) < ((⟨#[dirB d.val]⟩ : ByteArray).size : Int) ∧ bt (⟨#[dirB d.val]⟩ : ByteArray) 0 = dirC d.val := by decide
end Go.Proofs.YtcpeldgnabfdmabGreatDoor.Q
end
section
namespace Go.Proofs.YtcpeldgnabfdmabGreatDoor.Q
open Go.RowKit Go.Proofs.YtcpeldgnabfdmabGreatDoorW.PrintWords Go.Proofs.YtcpeldgnabfdmabGreatDoorW.PrintLast Go.Proofs.YtcpeldgnabfdmabGreatDoorW.PrintMore
attribute [local go_sem] max2_int min2_int max_two min_two max_three min_three max_four min_four
set_option linter.unusedVariables false
set_option linter.unusedSimpArgs false
def spec_StepsOfTilt.l0 : Nat → Int → ByteArray → Int → Int → Int → List Int → Option (Int × Bool)
 | 0, _, _, _, _, _, _ => none
 | k + 1, x7, x9, x10, x109000, x109001, x109002 => if x10 < 7 then ((spec_tyText.f k x109000 x109001 x109002).bind fun t115 => (if t115.toList = x9.toList then (some (x10, true)) else ((spec_tiStep.f k x109000 x109001 x109002 x7).bind fun bt116 => (spec_StepsOfTilt.l0 k x7 x9 (wrap64 (x10 + 1)) bt116.1 bt116.2.1 bt116.2.2)))) else (some (x10, true))
def spec_StepsOfTilt.f (k : Nat) (a0 : ByteArray) (a1 : ByteArray) : Option (Int × Bool) := (spec_tiRead.f k a0 a1).bind fun bt101 => (if bt101.2.2.2.2 = true then ((spec_tiTilt.f k bt101.1 bt101.2.1 bt101.2.2.1 bt101.2.2.2.1).bind fun bt109 => ((spec_tyText.f k bt109.1 bt109.2.1 bt109.2.2).bind fun t114 => (spec_StepsOfTilt.l0 k bt101.2.2.2.1 t114 0 bt101.1 bt101.2.1 bt101.2.2.1))) else (some (0, false)))
set_option maxHeartbeats 8000000 in
set_option maxRecDepth 100000 in
theorem spec_StepsOfTilt.calls (k : Nat) (a0 : ByteArray) (a1 : ByteArray) (r1 : Int) (r2 : Bool) (w : World) (h : spec_StepsOfTilt.f k a0 a1 = some (r1, r2)) :
  Calls Tryz.prog 7 #[.string a0, .string a1] w fun e w' => e = .returned (.tuple #[.int .i64 r1, .bool r2]) ∧ Below w.heap.size w w' := by
 have hu29 := Tryz.underlying29
 have HB := Aside0.mk (Below.refl w.heap.size w)
 have H : ((spec_tiRead.f k a0 a1).bind fun bt101 => (if bt101.2.2.2.2 = true then ((spec_tiTilt.f k bt101.1 bt101.2.1 bt101.2.2.1 bt101.2.2.2.1).bind fun bt109 => ((spec_tyText.f k bt109.1 bt109.2.1 bt109.2.2).bind fun t114 => (spec_StepsOfTilt.l0 k bt101.2.2.2.1 t114 0 bt101.1 bt101.2.1 bt101.2.2.1))) else (some (0, false)))) = some (r1, r2) := h
 clear h
 replace H := Option.bind_eq_some_iff.mp H
 obtain ⟨⟨t101, t102, t103, t106, t107⟩, A30, H⟩ := H
 replace H : (if t107 = true then ((spec_tiTilt.f k t101 t102 t103 t106).bind fun bt109 => ((spec_tyText.f k bt109.1 bt109.2.1 bt109.2.2).bind fun t114 => (spec_StepsOfTilt.l0 k t106 t114 0 t101 t102 t103))) else (some (0, false))) = some (r1, r2) := H
 have A3 := Aside0.mk A30
 clear A30
 by_cases c4 : t107 = true
 ·subst c4
  have H1 : ((spec_tiTilt.f k t101 t102 t103 t106).bind fun bt109 => ((spec_tyText.f k bt109.1 bt109.2.1 bt109.2.2).bind fun t114 => (spec_StepsOfTilt.l0 k t106 t114 0 t101 t102 t103))) = some (r1, r2) := by rw [if_pos rfl] at H; exact H
  clear H
  have H := H1
  clear H1
  replace H := Option.bind_eq_some_iff.mp H
  obtain ⟨⟨t109, t110, t111⟩, A50, H⟩ := H
  replace H : ((spec_tyText.f k t109 t110 t111).bind fun t114 => (spec_StepsOfTilt.l0 k t106 t114 0 t101 t102 t103)) = some (r1, r2) := H
  have A5 := Aside0.mk A50
  clear A50
  replace H := Option.bind_eq_some_iff.mp H
  obtain ⟨t114, A60, H⟩ := H
  replace H : (spec_StepsOfTilt.l0 k t106 t114 0 t101 t102 t103) = some (r1, r2) := H
  have A6 := Aside0.mk A60
  clear A60
  have H' := Aside0.mk H
  clear H
  go_enter Tryz.func7, Tryz.ntmps7
  go_wp2_with (first | ((with_reducible refine gate_callee (f := 9) rfl ?_); refine gcall (some 14) Tryz.func9 #[.string a0, .string a1] rfl ?_; (with_reducible refine (spec_tiRead.calls k a0 a1 t101 t102 t103 t106 true _ A3.out).mono ?_); rintro e w7 ⟨v104, rfl, ho0, hb⟩; refine ⟨_, rfl, ?_⟩; have n0_ := Aside0.mk (Kd.R_lower ho0 (below_size (bel HB))); have n1_ := Aside0.mk (below_step (bel HB) hb); clear HB; have HO105 := n0_; have HB := n1_; clear n0_ n1_; (try clear hb); (try clear hb2); (try clear hk); (try clear hi); (try clear ho0)) | ((with_reducible refine gate_dst (N := 6) rfl ?_); refine boxE (N := 6) (cs := #[.int .i64 0, .int .i64 0, .slice none 0 0]) (t := 29) ?_; intro gb108 hg w8 hbox hb; have n0_ := Aside0.mk (Kd.R_below (rch HO105) hb); have n1_ := Aside0.mk (below_step (bel HB) hb); have n2_ := Aside0.mk (hbox); have n3_ := Aside0.mk (gsz hg (bel HB)); have n4_ := Aside0.mk (gsz hg (bel HB)); clear HO105; clear HB; have HO105 := n0_; have HB := n1_; have BK108 := n2_; have GW108 := n3_; have GE108 := n4_; clear n0_ n1_ n2_ n3_ n4_; clear hb hbox hg; have hcz9_0 : w8.cell? ⟨gb108, 0, none⟩ = some (.int .i64 0) := (blk_cell BK108.out 0).trans rfl; have hcz9_1 : w8.cell? ⟨gb108, 1, none⟩ = some (.int .i64 0) := (blk_cell BK108.out 1).trans rfl; have hcz9_2 : w8.cell? ⟨gb108, 2, none⟩ = some (.slice none 0 0) := (blk_cell BK108.out 2).trans rfl; have hfz9_0 := blk_frozen BK108.out 0; have hfz9_1 := blk_frozen BK108.out 1; have hfz9_2 := blk_frozen BK108.out 2; obtain ⟨Ao10, co10, eo10⟩ := Kd.R_slice HO105.out; subst eo10) | ((with_reducible refine gate_callee (f := 16) rfl ?_); refine gcall (some 22) Tryz.func16 #[.agg #[.int .i64 t101, .int .i64 t102, .slice Ao10 t103.length co10], .int .i64 t106] rfl ?_; (with_reducible refine (spec_tiTilt.calls k t101 t102 _ _ t103 t106 t109 t110 t111 _ ?side1 ?side2 A5.out).mono ?_); (case side1 => refine (Kd.R_reads' (e := 5) (base := w.heap.size) (ok := fun k_ => True) (n := t103.length) (c := co10) ?_).2.2; exact (by (with_reducible repeat (first | apply Kd.R_alloc | apply Kd.R_drewN | apply Kd.R_drew)); exact (Kd.R_mono (Kd.R_far (p := ⟨gb108, 2, none⟩) (Kd.R_far (p := ⟨gb108, 1, none⟩) (Kd.R_far (p := ⟨gb108, 0, none⟩) (Kd.R_types HO105.out BK108.out (by decide)) (fun _ hk => hk.2) (.int .i64 t101)) (fun _ hk => hk.2) (.int .i64 t102)) (fun _ hk => hk.2) (.slice Ao10 t103.length co10)) (fun _ h_ => h_.1)))); (case side2 => exact (Kd.R_reads' HO105.out).2.1); rintro e w11 ⟨v112, rfl, ho0, hb⟩; refine ⟨_, rfl, ?_⟩; have n0_ := Aside0.mk (Kd.R_elder' (by (with_reducible repeat (first | apply Kd.R_alloc | apply Kd.R_drewN | apply Kd.R_drew)); exact (Kd.R_mono (Kd.R_far (p := ⟨gb108, 2, none⟩) (Kd.R_far (p := ⟨gb108, 1, none⟩) (Kd.R_far (p := ⟨gb108, 0, none⟩) (Kd.R_types HO105.out BK108.out (by decide)) (fun _ hk => hk.2) (.int .i64 t101)) (fun _ hk => hk.2) (.int .i64 t102)) (fun _ hk => hk.2) (.slice Ao10 t103.length co10)) (fun _ h_ => h_.1))) (Kd.R_base ho0) hb); have n1_ := Aside0.mk (Kd.R_lower (Kd.R_new' ho0 (Kd.R_lt (by (with_reducible repeat (first | apply Kd.R_alloc | apply Kd.R_drewN | apply Kd.R_drew)); exact (Kd.R_mono (Kd.R_far (p := ⟨gb108, 2, none⟩) (Kd.R_far (p := ⟨gb108, 1, none⟩) (Kd.R_far (p := ⟨gb108, 0, none⟩) (Kd.R_types HO105.out BK108.out (by decide)) (fun _ hk => hk.2) (.int .i64 t101)) (fun _ hk => hk.2) (.int .i64 t102)) (fun _ hk => hk.2) (.slice Ao10 t103.length co10)) (fun _ h_ => h_.1))))) (below_size (bel HB))); have n2_ := Aside0.mk (blk_below (g := gb108) (o := .cells #[.int .i64 t101, .int .i64 t102, .slice Ao10 t103.length co10] 29 (0, 0)) (by (with_reducible repeat (first | refine blk_drewN ?_ _ | refine blk_drew ?_ | refine blk_alloc ?_ _)); refine blk_put (cs := #[.int .i64 t101, .int .i64 t102, .slice none 0 0]) ?_ 2 _ rfl; (with_reducible repeat (first | refine blk_drewN ?_ _ | refine blk_drew ?_ | refine blk_alloc ?_ _)); refine blk_put (cs := #[.int .i64 t101, .int .i64 0, .slice none 0 0]) ?_ 1 _ rfl; (with_reducible repeat (first | refine blk_drewN ?_ _ | refine blk_drew ?_ | refine blk_alloc ?_ _)); refine blk_put (cs := #[.int .i64 0, .int .i64 0, .slice none 0 0]) ?_ 0 _ rfl; exact blc) hb); have n3_ := Aside0.mk (below_step (bel HB) hb); clear HO105; clear BK108; clear HB; have HO105 := n0_; have HO113 := n1_; have BK108 := n2_; have HB := n3_; clear n0_ n1_ n2_ n3_; (try clear hb); (try clear hb2); (try clear hk); (try clear hi); (try clear ho0); obtain ⟨Ao12, co12, eo12⟩ := Kd.R_slice HO113.out; subst eo12) | ((with_reducible refine gate_callee (f := 10) rfl ?_); refine gcall (some 23) Tryz.func10 #[.agg #[.int .i64 t109, .int .i64 t110, .slice Ao12 t111.length co12]] rfl ?_; (with_reducible refine (spec_tyText.calls k t109 t110 _ _ t111 t114 _ ?side1 ?side2 A6.out).mono ?_); (case side1 => repeat (first | exact (Kd.R_reads' HO113.out).2.2 | (with_reducible refine Kd.C_alloc ?_ _) | (with_reducible refine Kd.C_drewN ?_ _) | (with_reducible refine Kd.C_drew ?_))); (case side2 => exact (Kd.R_reads' HO113.out).2.1); rintro e w13 ⟨rfl, hb⟩; refine ⟨_, rfl, ?_⟩; have n0_ := Aside0.mk (Kd.R_below (rch HO105) hb); have n1_ := Aside0.mk (Kd.R_below (rch HO113) hb); have n2_ := Aside0.mk (blk_below (g := gb108) (o := .cells #[.int .i64 t101, .int .i64 t102, .slice Ao10 t103.length co10] 29 (0, 0)) blc hb); have n3_ := Aside0.mk (below_step (bel HB) hb); clear HO105; clear HO113; clear BK108; clear HB; have HO105 := n0_; have HO113 := n1_; have BK108 := n2_; have HB := n3_; clear n0_ n1_ n2_ n3_; (try clear hb); (try clear hb2); (try clear hk); (try clear hi)))
  go_loopg [10] k (fun kq v10 w' => ∃ (x10_1 : Int) (x109000_1 : Int) (x109001_1 : Int) (x109002_1 : List Int) (u109002 : Value), v10 = .int .i64 x10_1 ∧ Aside0 (spec_StepsOfTilt.l0 kq t106 t114 x10_1 x109000_1 x109001_1 x109002_1 = some (r1, r2)) ∧ Aside0 (kq ≤ k) ∧ Aside0 (Kd.R (Kd.int .u8) 5 w' w.heap.size (fun _ => True) u109002 x109002_1) ∧ Aside0 (w'.heap[gb108]? = some (.cells #[.int .i64 x109000_1, .int .i64 x109001_1, u109002] 29 (0, 0))) ∧ Aside0 (Below w.heap.size w w'))
  case atStart => exact ⟨(0), (t101), (t102), (t103), (.slice Ao10 t103.length co10), (by first | rfl | (simp; done) | (simp [*]; done)), H', ⟨Nat.le_refl _⟩, ⟨by (with_reducible repeat (first | apply Kd.R_alloc | apply Kd.R_drewN | apply Kd.R_drew)); exact Kd.R_mono HO105.out (fun _ hk => trivial)⟩, ⟨blc⟩, ⟨bel HB⟩⟩
  case round =>
   clear H'
   try clear c1
   try clear p2
   try clear c4
   try clear c7
   try clear c9
   try clear c10
   try clear hcz9_0
   try clear hcz9_1
   try clear hcz9_2
   try clear hfz9_0
   try clear hfz9_1
   try clear hfz9_2
   obtain ⟨x10_1, x109000_1, x109001_1, x109002_1, u109002, rfl, HA, HK1, HO_109002, BK108, HB⟩ := hrel
   cases gk with
   | zero => exact absurd HA.out (by simp [spec_StepsOfTilt.l0])
   | succ k1 =>
    have H := HA.out
    clear HA
    simp only [spec_StepsOfTilt.l0] at H
    by_cases c14 : x10_1 < 7
    ·rw [if_pos c14] at H
     have c14b0 : decide (x10_1 < 7) = true := decide_eq_true c14
     clear c14
     replace H := Option.bind_eq_some_iff.mp H
     obtain ⟨t115, A150, H⟩ := H
     replace H : (if t115.toList = t114.toList then (some (x10_1, true)) else ((spec_tiStep.f k1 x109000_1 x109001_1 x109002_1 t106).bind fun bt116 => (spec_StepsOfTilt.l0 k1 t106 t114 (wrap64 (x10_1 + 1)) bt116.1 bt116.2.1 bt116.2.2))) = some (r1, r2) := H
     have A15 := Aside0.mk A150
     clear A150
     by_cases c16 : t115.toList = t114.toList
     ·rw [if_pos c16] at H
      have c16b0 : (t115.toList == t114.toList) = true := beq_iff_eq.mpr c16
      have c16b1 : (t115.toList != t114.toList) = false := bne_eq_false_iff_eq.mpr c16
      clear c16
      simp only [Option.some.injEq, Prod.mk.injEq] at H
      obtain ⟨rfl, rfl⟩ := H
      have hcz17_0 : wr.cell? ⟨gb108, 0, none⟩ = some (.int .i64 x109000_1) := (blk_cell BK108.out 0).trans rfl
      have hcz17_1 : wr.cell? ⟨gb108, 1, none⟩ = some (.int .i64 x109001_1) := (blk_cell BK108.out 1).trans rfl
      have hcz17_2 : wr.cell? ⟨gb108, 2, none⟩ = some (u109002) := (blk_cell BK108.out 2).trans rfl
      have hfz17_0 := blk_frozen BK108.out 0
      have hfz17_1 := blk_frozen BK108.out 1
      have hfz17_2 := blk_frozen BK108.out 2
      obtain ⟨Ao18, co18, eo18⟩ := Kd.R_slice HO_109002.out
      subst eo18
      go_wp2_with (first | (go_at_call 10; (with_reducible refine (spec_tyText.calls k1 x109000_1 x109001_1 _ _ x109002_1 t115 _ ?side1 ?side2 A15.out).mono ?_); (case side1 => repeat (first | exact (Kd.R_reads' HO_109002.out).2.2 | (with_reducible refine Kd.C_alloc ?_ _) | (with_reducible refine Kd.C_drewN ?_ _) | (with_reducible refine Kd.C_drew ?_))); (case side2 => exact (Kd.R_reads' HO_109002.out).2.1); rintro e w19 ⟨rfl, hb⟩; have n0_ := Aside0.mk (Kd.R_below (rch HO_109002) hb); have n1_ := Aside0.mk (blk_below (g := gb108) (o := .cells #[.int .i64 x109000_1, .int .i64 x109001_1, .slice Ao18 x109002_1.length co18] 29 (0, 0)) blc hb); have n2_ := Aside0.mk (below_step (bel HB) hb); clear HO_109002; clear BK108; clear HB; have HO_109002 := n0_; have BK108 := n1_; have HB := n2_; clear n0_ n1_ n2_; (try clear hb); (try clear hb2); (try clear hk); (try clear hi)))
      go_ret2
      exact ⟨by first | rfl | (simp [errW_none, errW_some] <;> rfl) | (simp [*, errW_none, errW_some] <;> rfl), bel HB⟩
     ·rw [if_neg c16] at H
      have c16b0 : (t115.toList == t114.toList) = false := beq_eq_false_iff_ne.mpr c16
      have c16b1 : (t115.toList != t114.toList) = true := bne_iff_ne.mpr c16
      replace H := Option.bind_eq_some_iff.mp H
      obtain ⟨⟨t116, t117, t118⟩, A200, H⟩ := H
      replace H : (spec_StepsOfTilt.l0 k1 t106 t114 (wrap64 (x10_1 + 1)) t116 t117 t118) = some (r1, r2) := H
      have A20 := Aside0.mk A200
      clear A200
      have H' := Aside0.mk H
      clear H
      have hcz21_0 : wr.cell? ⟨gb108, 0, none⟩ = some (.int .i64 x109000_1) := (blk_cell BK108.out 0).trans rfl
      have hcz21_1 : wr.cell? ⟨gb108, 1, none⟩ = some (.int .i64 x109001_1) := (blk_cell BK108.out 1).trans rfl
      have hcz21_2 : wr.cell? ⟨gb108, 2, none⟩ = some (u109002) := (blk_cell BK108.out 2).trans rfl
      have hfz21_0 := blk_frozen BK108.out 0
      have hfz21_1 := blk_frozen BK108.out 1
      have hfz21_2 := blk_frozen BK108.out 2
      obtain ⟨Ao22, co22, eo22⟩ := Kd.R_slice HO_109002.out
      subst eo22
      go_wp2_with (first | (go_at_call 10; (with_reducible refine (spec_tyText.calls k1 x109000_1 x109001_1 _ _ x109002_1 t115 _ ?side1 ?side2 A15.out).mono ?_); (case side1 => repeat (first | exact (Kd.R_reads' HO_109002.out).2.2 | (with_reducible refine Kd.C_alloc ?_ _) | (with_reducible refine Kd.C_drewN ?_ _) | (with_reducible refine Kd.C_drew ?_))); (case side2 => exact (Kd.R_reads' HO_109002.out).2.1); rintro e w23 ⟨rfl, hb⟩; have n0_ := Aside0.mk (Kd.R_below (rch HO_109002) hb); have n1_ := Aside0.mk (blk_below (g := gb108) (o := .cells #[.int .i64 x109000_1, .int .i64 x109001_1, .slice Ao22 x109002_1.length co22] 29 (0, 0)) blc hb); have n2_ := Aside0.mk (below_step (bel HB) hb); clear HO_109002; clear BK108; clear HB; have HO_109002 := n0_; have BK108 := n1_; have HB := n2_; clear n0_ n1_ n2_; (try clear hb); (try clear hb2); (try clear hk); (try clear hi); have hcz24_0 : w23.cell? ⟨gb108, 0, none⟩ = some (.int .i64 x109000_1) := (blk_cell BK108.out 0).trans rfl; have hcz24_1 : w23.cell? ⟨gb108, 1, none⟩ = some (.int .i64 x109001_1) := (blk_cell BK108.out 1).trans rfl; have hcz24_2 : w23.cell? ⟨gb108, 2, none⟩ = some (.slice Ao22 x109002_1.length co22) := (blk_cell BK108.out 2).trans rfl; have hfz24_0 := blk_frozen BK108.out 0; have hfz24_1 := blk_frozen BK108.out 1; have hfz24_2 := blk_frozen BK108.out 2) | ((with_reducible refine gate_callee (f := 11) rfl ?_); refine gcall (some 36) Tryz.func11 #[.agg #[.int .i64 x109000_1, .int .i64 x109001_1, .slice Ao22 x109002_1.length co22], .int .i64 t106] rfl ?_; (with_reducible refine (spec_tiStep.calls k1 x109000_1 x109001_1 _ _ x109002_1 t106 t116 t117 t118 _ ?side1 ?side2 A20.out).mono ?_); (case side1 => repeat (first | exact (Kd.R_reads' HO_109002.out).2.2 | (with_reducible refine Kd.C_alloc ?_ _) | (with_reducible refine Kd.C_drewN ?_ _) | (with_reducible refine Kd.C_drew ?_))); (case side2 => exact (Kd.R_reads' HO_109002.out).2.1); rintro e w25 ⟨v119, rfl, ho0, hb⟩; refine ⟨_, rfl, ?_⟩; have n0_ := Aside0.mk (Kd.R_elder' (rch HO_109002) (Kd.R_base ho0) hb); have n1_ := Aside0.mk (Kd.R_lower (Kd.R_new' ho0 (Kd.R_lt (rch HO_109002))) (below_size (bel HB))); have n2_ := Aside0.mk (blk_below (g := gb108) (o := .cells #[.int .i64 x109000_1, .int .i64 x109001_1, .slice Ao22 x109002_1.length co22] 29 (0, 0)) blc hb); have n3_ := Aside0.mk (below_step (bel HB) hb); clear HO_109002; clear BK108; clear HB; have HO_109002 := n0_; have HO120 := n1_; have BK108 := n2_; have HB := n3_; clear n0_ n1_ n2_ n3_; (try clear hb); (try clear hb2); (try clear hk); (try clear hi); (try clear ho0); have hcz26_0 : w25.cell? ⟨gb108, 0, none⟩ = some (.int .i64 x109000_1) := (blk_cell BK108.out 0).trans rfl; have hcz26_1 : w25.cell? ⟨gb108, 1, none⟩ = some (.int .i64 x109001_1) := (blk_cell BK108.out 1).trans rfl; have hcz26_2 : w25.cell? ⟨gb108, 2, none⟩ = some (.slice Ao22 x109002_1.length co22) := (blk_cell BK108.out 2).trans rfl; have hfz26_0 := blk_frozen BK108.out 0; have hfz26_1 := blk_frozen BK108.out 1; have hfz26_2 := blk_frozen BK108.out 2; obtain ⟨Ao27, co27, eo27⟩ := Kd.R_slice HO120.out; subst eo27))
      go_roundg k1
      case measure => have := HK1.out; omega
      case rel => exact ⟨(wrap64 (x10_1 + 1)), (t116), (t117), (t118), (.slice Ao27 t118.length co27), (by first | rfl | (simp; done) | (simp [*]; done)), H', ⟨by have := HK1.out; omega⟩, ⟨by (with_reducible repeat (first | apply Kd.R_alloc | apply Kd.R_drewN | apply Kd.R_drew)); exact Kd.R_mono (Kd.R_far (p := ⟨gb108, 2, none⟩) (Kd.R_far (p := ⟨gb108, 1, none⟩) (Kd.R_far (p := ⟨gb108, 0, none⟩) (Kd.R_types HO120.out BK108.out (by decide)) (fun _ hk => hk.2) (.int .i64 t116)) (fun _ hk => hk.2) (.int .i64 t117)) (fun _ hk => hk.2) (.slice Ao27 t118.length co27)) (fun _ hk => trivial)⟩, ⟨by (with_reducible repeat (first | refine blk_drewN ?_ _ | refine blk_drew ?_ | refine blk_alloc ?_ _)); refine blk_put (cs := #[.int .i64 t116, .int .i64 t117, .slice Ao22 x109002_1.length co22]) ?_ 2 _ rfl; (with_reducible repeat (first | refine blk_drewN ?_ _ | refine blk_drew ?_ | refine blk_alloc ?_ _)); refine blk_put (cs := #[.int .i64 t116, .int .i64 x109001_1, .slice Ao22 x109002_1.length co22]) ?_ 1 _ rfl; (with_reducible repeat (first | refine blk_drewN ?_ _ | refine blk_drew ?_ | refine blk_alloc ?_ _)); refine blk_put (cs := #[.int .i64 x109000_1, .int .i64 x109001_1, .slice Ao22 x109002_1.length co22]) ?_ 0 _ rfl; exact blc⟩, ⟨bel HB⟩⟩
    ·rw [if_neg c14] at H
     have c14b0 : decide (x10_1 < 7) = false := decide_eq_false c14
     clear c14
     simp only [Option.some.injEq, Prod.mk.injEq] at H
     obtain ⟨rfl, rfl⟩ := H
     go_wp2
     go_ret2
     exact ⟨by first | rfl | (simp [errW_none, errW_some] <;> rfl) | (simp [*, errW_none, errW_some] <;> rfl), bel HB⟩
 ·replace c4 := Bool.eq_false_iff.mpr c4
  subst c4
  have H1 : (some (0, false)) = some (r1, r2) := by rw [if_neg (show ¬ (false = true) by decide)] at H; exact H
  clear H
  have H := H1
  clear H1
  simp only [Option.some.injEq, Prod.mk.injEq] at H
  obtain ⟨rfl, rfl⟩ := H
  go_enter Tryz.func7, Tryz.ntmps7
  go_wp2_with (first | ((with_reducible refine gate_callee (f := 9) rfl ?_); refine gcall (some 14) Tryz.func9 #[.string a0, .string a1] rfl ?_; (with_reducible refine (spec_tiRead.calls k a0 a1 t101 t102 t103 t106 false _ A3.out).mono ?_); rintro e w28 ⟨v104, rfl, ho0, hb⟩; refine ⟨_, rfl, ?_⟩; have n0_ := Aside0.mk (Kd.R_lower ho0 (below_size (bel HB))); have n1_ := Aside0.mk (below_step (bel HB) hb); clear HB; have HO105 := n0_; have HB := n1_; clear n0_ n1_; (try clear hb); (try clear hb2); (try clear hk); (try clear hi); (try clear ho0)) | ((with_reducible refine gate_dst (N := 6) rfl ?_); refine boxE (N := 6) (cs := #[.int .i64 0, .int .i64 0, .slice none 0 0]) (t := 29) ?_; intro gb108 hg w29 hbox hb; have n0_ := Aside0.mk (Kd.R_below (rch HO105) hb); have n1_ := Aside0.mk (below_step (bel HB) hb); have n2_ := Aside0.mk (hbox); have n3_ := Aside0.mk (gsz hg (bel HB)); have n4_ := Aside0.mk (gsz hg (bel HB)); clear HO105; clear HB; have HO105 := n0_; have HB := n1_; have BK108 := n2_; have GW108 := n3_; have GE108 := n4_; clear n0_ n1_ n2_ n3_ n4_; clear hb hbox hg; have hcz30_0 : w29.cell? ⟨gb108, 0, none⟩ = some (.int .i64 0) := (blk_cell BK108.out 0).trans rfl; have hcz30_1 : w29.cell? ⟨gb108, 1, none⟩ = some (.int .i64 0) := (blk_cell BK108.out 1).trans rfl; have hcz30_2 : w29.cell? ⟨gb108, 2, none⟩ = some (.slice none 0 0) := (blk_cell BK108.out 2).trans rfl; have hfz30_0 := blk_frozen BK108.out 0; have hfz30_1 := blk_frozen BK108.out 1; have hfz30_2 := blk_frozen BK108.out 2; obtain ⟨Ao31, co31, eo31⟩ := Kd.R_slice HO105.out; subst eo31))
  go_ret2
  exact ⟨by first | rfl | (simp [errW_none, errW_some] <;> rfl) | (simp [*, errW_none, errW_some] <;> rfl), bel HB⟩
def impl_StepsOfTilt.l0 : Nat → ByteArray → ByteArray → Int → Int → Int → List Int → Option (Int × Bool)
 | 0, _, _, _, _, _, _ => none
 | k + 1, x1, x7, x8, x119000, x119001, x119002 => (impl_tray_text.f x119000 x119001 x119002).bind fun t119 => (if t119.toList = x7.toList then (some (x8, true)) else (if 0 < (x1.size : Int) then ((impl_tray_stepped.f k x119000 x119001 x119002 (bt x1 0)).bind fun bt120 => (impl_StepsOfTilt.l0 k x1 x7 (wrap64 (x8 + 1)) bt120.1 bt120.2.1 bt120.2.2)) else (none)))
def impl_StepsOfTilt.f (k : Nat) (a0 : ByteArray) (a1 : ByteArray) : Option (Int × Bool) := (impl_isTilted.f k a0 a1).bind fun t101 => (if t101 = true then ((impl_read.f a0).bind fun bt102 => ((impl_read.f a0).bind fun bt107 => (if 0 < (a1.size : Int) then ((impl_tray_tilted.f k bt107.1 bt107.2.1 bt107.2.2 (bt a1 0)).bind fun bt112 => ((impl_tray_text.f bt112.1 bt112.2.1 bt112.2.2).bind fun t117 => (impl_StepsOfTilt.l0 k a1 t117 0 bt102.1 bt102.2.1 bt102.2.2))) else (none)))) else (some (0, false)))
def impl_StepsOfTilt.T3 : Bool × List (List Nat × List Nat) := (true, [([], []), ([0], [0]), ([], []), ([2, 1], [2]), ([], []), ([4], [4]), ([3, 5, 3], [3, 5]), ([6, 6], [6]), ([], []), ([8, 1, 7, 0, 1, 8], [1, 8]), ([7, 9, 0, 1, 2, 3, 4, 5, 6, 7, 8, 9], [7]), ([10, 0, 1, 2, 3, 4, 5, 6, 7, 8, 9, 10], [])])
def impl_StepsOfTilt.B3 : List Nat := [0, 1, 0, 7, 0, 16, 63, 127, 0, 511, 1023, 2047]
theorem impl_StepsOfTilt.tab3 : rtab .any (opsOf Tryz.f8 3) = impl_StepsOfTilt.T3 := by kernel_rfl
theorem impl_StepsOfTilt.bits3 : waitsOk impl_StepsOfTilt.T3.2 impl_StepsOfTilt.B3 = true := by kernel_rfl
set_option maxHeartbeats 8000000 in
set_option maxRecDepth 100000 in
theorem impl_StepsOfTilt.calls (k : Nat) (a0 : ByteArray) (a1 : ByteArray) (r1 : Int) (r2 : Bool) (w : World) (hG : GoodW w) (h : impl_StepsOfTilt.f k a0 a1 = some (r1, r2)) :
  Calls Tryz.prog 8 #[.string a0, .string a1] w fun e w' => e = .returned (.tuple #[.int .i64 r1, .bool r2]) ∧ Below w.heap.size w w' := by
 have hu35 := Tryz.underlying35
 have HG := Aside0.mk hG
 clear hG
 have HB := Aside0.mk (Below.refl w.heap.size w)
 have H : ((impl_isTilted.f k a0 a1).bind fun t101 => (if t101 = true then ((impl_read.f a0).bind fun bt102 => ((impl_read.f a0).bind fun bt107 => (if 0 < (a1.size : Int) then ((impl_tray_tilted.f k bt107.1 bt107.2.1 bt107.2.2 (bt a1 0)).bind fun bt112 => ((impl_tray_text.f bt112.1 bt112.2.1 bt112.2.2).bind fun t117 => (impl_StepsOfTilt.l0 k a1 t117 0 bt102.1 bt102.2.1 bt102.2.2))) else (none)))) else (some (0, false)))) = some (r1, r2) := h
 clear h
 replace H := Option.bind_eq_some_iff.mp H
 obtain ⟨t101, A30, H⟩ := H
 replace H : (if t101 = true then ((impl_read.f a0).bind fun bt102 => ((impl_read.f a0).bind fun bt107 => (if 0 < (a1.size : Int) then ((impl_tray_tilted.f k bt107.1 bt107.2.1 bt107.2.2 (bt a1 0)).bind fun bt112 => ((impl_tray_text.f bt112.1 bt112.2.1 bt112.2.2).bind fun t117 => (impl_StepsOfTilt.l0 k a1 t117 0 bt102.1 bt102.2.1 bt102.2.2))) else (none)))) else (some (0, false))) = some (r1, r2) := H
 have A3 := Aside0.mk A30
 clear A30
 by_cases c4 : t101 = true
 ·subst c4
  have H1 : ((impl_read.f a0).bind fun bt102 => ((impl_read.f a0).bind fun bt107 => (if 0 < (a1.size : Int) then ((impl_tray_tilted.f k bt107.1 bt107.2.1 bt107.2.2 (bt a1 0)).bind fun bt112 => ((impl_tray_text.f bt112.1 bt112.2.1 bt112.2.2).bind fun t117 => (impl_StepsOfTilt.l0 k a1 t117 0 bt102.1 bt102.2.1 bt102.2.2))) else (none)))) = some (r1, r2) := by rw [if_pos rfl] at H; exact H
  clear H
  have H := H1
  clear H1
  replace H := Option.bind_eq_some_iff.mp H
  obtain ⟨⟨t102, t103, t104⟩, A50, H⟩ := H
  replace H : ((impl_read.f a0).bind fun bt107 => (if 0 < (a1.size : Int) then ((impl_tray_tilted.f k bt107.1 bt107.2.1 bt107.2.2 (bt a1 0)).bind fun bt112 => ((impl_tray_text.f bt112.1 bt112.2.1 bt112.2.2).bind fun t117 => (impl_StepsOfTilt.l0 k a1 t117 0 t102 t103 t104))) else (none))) = some (r1, r2) := H
  have A5 := Aside0.mk A50
  clear A50
  replace H := Option.bind_eq_some_iff.mp H
  obtain ⟨⟨t107, t108, t109⟩, A60, H⟩ := H
  replace H : (if 0 < (a1.size : Int) then ((impl_tray_tilted.f k t107 t108 t109 (bt a1 0)).bind fun bt112 => ((impl_tray_text.f bt112.1 bt112.2.1 bt112.2.2).bind fun t117 => (impl_StepsOfTilt.l0 k a1 t117 0 t102 t103 t104))) else (none)) = some (r1, r2) := H
  have A6 := Aside0.mk A60
  clear A60
  by_cases c7 : 0 < (a1.size : Int)
  ·rw [if_pos c7] at H
   have c7b0 : decide (0 < (a1.size : Int)) = true := decide_eq_true c7
   have c7b1 : decide (0 < a1.size) = true := decide_eq_true (by omega)
   clear c7
   replace H := Option.bind_eq_some_iff.mp H
   obtain ⟨⟨t112, t113, t114⟩, A90, H⟩ := H
   replace H : ((impl_tray_text.f t112 t113 t114).bind fun t117 => (impl_StepsOfTilt.l0 k a1 t117 0 t102 t103 t104)) = some (r1, r2) := H
   have A9 := Aside0.mk A90
   clear A90
   replace H := Option.bind_eq_some_iff.mp H
   obtain ⟨t117, A100, H⟩ := H
   replace H : (impl_StepsOfTilt.l0 k a1 t117 0 t102 t103 t104) = some (r1, r2) := H
   have A10 := Aside0.mk A100
   clear A100
   have H' := Aside0.mk H
   clear H
   go_enter Tryz.func8, Tryz.ntmps8
   try go_wp2_with (first | ((with_reducible refine gate_callee (f := 12) rfl ?_); refine gcall (some 11) Tryz.func12 #[.string a0, .string a1] rfl ?_; (with_reducible refine (impl_isTilted.calls k a0 a1 true _ ?side1 A3.out).mono ?_); (case side1 => (refine GoodW.below HG.out ?_); exact bel HB); rintro e w11 ⟨rfl, hb⟩; refine ⟨_, rfl, ?_⟩; have n0_ := Aside0.mk (below_step (bel HB) hb); clear HB; have HB := n0_; clear n0_; (try clear hb); (try clear hb2); (try clear hk); (try clear hi)))
   have n0_ := Aside0.mk (below_drew1 HB.out)
   clear HB
   have HB := n0_
   clear n0_
   have p8 : 0 ≤ (0 : Int) := (by omega)
   have q8 : 0 < a1.size := (by have : (0 : Int) < (a1.size : Int) := of_decide_eq_true (by first | (with_reducible assumption) | assumption); omega)
   have hx8 : ∀ h : 0 < a1.size, ((a1[0]'h).toNat : Int) = bt a1 0 := bt_at a1 0
   clear p8
   have qi8 : (0 < (a1.size : Int)) = True := eq_true (of_decide_eq_true (by first | (with_reducible assumption) | assumption))
   replace q8 := eq_true q8
   refine start_ (n := 12) (S := fun w' => True) (ds := []) #[false, false, false, false, false, false, false, false, false, false, false, false] (by kernel_rfl) rfl rfl trivial (fun hHeld => ?_); refine with_tabW impl_StepsOfTilt.tab3 impl_StepsOfTilt.bits3 (fun HT_ HW_ => ?_)
   generalize w11.drew = w12 at HB hHeld ⊢
   refine pure_ (i := 0) (N := some 13) (v := ?_) (a' := ?_) #[true, false, false, false, false, false, false, false, false, false, false, false] rfl rfl (any_of HT_.out (by kernel_rfl)) (fun _ _ _ h => h) (Or.inl ⟨by rfl, ?_⟩) ?_ ?_
   rotate_left
   ·intro w'
    go_simp
    with_reducible rfl
   rotate_left
   ·simp only [Act.put, List.setIfInBounds_toArray, List.set_cons_zero, List.set_cons_succ, i64_w, i32_w]
    rfl
   refine pure_ (i := 2) (N := some 15) (v := ?_) (a' := ?_) #[true, false, true, false, false, false, false, false, false, false, false, false] rfl rfl (any_of HT_.out (by kernel_rfl)) (fun _ _ _ h => h) (Or.inl ⟨by rfl, ?_⟩) ?_ ?_
   rotate_left
   ·intro w'
    go_simp
    with_reducible rfl
   rotate_left
   ·simp only [Act.put, List.setIfInBounds_toArray, List.set_cons_zero, List.set_cons_succ, i64_w, i32_w]
    rfl
   refine pure_ (i := 4) (N := some 17) (v := ?_) (a' := ?_) #[true, false, true, false, true, false, false, false, false, false, false, false] rfl rfl (any_of HT_.out (by kernel_rfl)) (fun _ _ _ h => h) (Or.inl ⟨by rfl, ?_⟩) ?_ ?_
   rotate_left
   ·intro w'
    go_simp
    with_reducible rfl
   rotate_left
   ·simp only [Act.put, List.setIfInBounds_toArray, List.set_cons_zero, List.set_cons_succ, i64_w, i32_w]
    rfl
   refine take_ (i := 5) (N := some 18) (v := ?_) (a' := ?_) #[true, false, true, false, true, true, false, false, false, false, false, false] rfl rfl (take_ofW HT_.out HW_.out (by kernel_rfl)) (fun _ _ _ h => h) (Or.inl ⟨by rfl, ?_⟩) hHeld ?_ ?_
   rotate_left
   ·intro w' _
    go_simp
    with_reducible rfl
   rotate_left
   ·simp only [Act.put, List.setIfInBounds_toArray, List.set_cons_zero, List.set_cons_succ, i64_w, i32_w]
    rfl
   refine join_ (σ := Value × Value × Value × Nat) 3 #[true, true, true, true, true, true, true, true, true, false, false, false] (fun s_ => [(14, .agg #[.int .i64 t102, .int .i64 t103, s_.1]), (16, .agg #[.int .i64 t107, .int .i64 t108, s_.2.1]), (19, .agg #[.int .i64 t112, .int .i64 t113, s_.2.2.1]), (20, .string t117), (6, .pointer (some ⟨s_.2.2.2, 0, none⟩))]) (fun s_ w' => (Kd.V (Kd.int .u8) 5 w' w.heap.size (fun k_ => some k_ ≠ (s_.2.2.1 : Value).ownBlock ∧ k_ ≠ s_.2.2.2) s_.1 t104) ∧ (Kd.V (Kd.int .u8) 5 w' w.heap.size (fun k_ => some k_ ≠ (s_.2.2.1 : Value).ownBlock ∧ k_ ≠ s_.2.2.2) s_.2.1 t109) ∧ (Kd.R (Kd.int .u8) 5 w' w.heap.size (fun _ => True) s_.2.2.1 t114) ∧ (w'.heap[s_.2.2.2]? = some (.cells #[.int .i64 0, .int .i64 0, .slice none 0 0] 35 (0, 0))) ∧ (w.heap.size ≤ s_.2.2.2) ∧ (w.heap.size ≤ s_.2.2.2) ∧ (Below w.heap.size w w')) ?_ ?_
   rotate_left
   ·intro hJ1_3_6_7_8
    refine join_ (σ := Value × Value × Value) 4 #[true, true, true, true, true, true, true, true, false, false, false, false] (fun s_ => [(14, .agg #[.int .i64 t102, .int .i64 t103, s_.1]), (16, .agg #[.int .i64 t107, .int .i64 t108, s_.2.1]), (19, .agg #[.int .i64 t112, .int .i64 t113, s_.2.2]), (20, .string t117)]) (fun s_ w' => (Kd.V (Kd.int .u8) 5 w' w.heap.size (fun k_ => some k_ ≠ (s_.2.2 : Value).ownBlock) s_.1 t104) ∧ (Kd.V (Kd.int .u8) 5 w' w.heap.size (fun k_ => some k_ ≠ (s_.2.2 : Value).ownBlock) s_.2.1 t109) ∧ (Kd.R (Kd.int .u8) 5 w' w.heap.size (fun _ => True) s_.2.2 t114) ∧ (Below w.heap.size w w')) ?_ ?_
    rotate_left
    ·intro hJ1_3_6_7
     refine join_ (σ := Value × Value × Value × Nat) 4 #[true, true, true, true, true, true, true, false, true, false, false, false] (fun s_ => [(14, .agg #[.int .i64 t102, .int .i64 t103, s_.1]), (16, .agg #[.int .i64 t107, .int .i64 t108, s_.2.1]), (19, .agg #[.int .i64 t112, .int .i64 t113, s_.2.2.1]), (6, .pointer (some ⟨s_.2.2.2, 0, none⟩))]) (fun s_ w' => (Kd.V (Kd.int .u8) 5 w' w.heap.size (fun k_ => some k_ ≠ (s_.2.2.1 : Value).ownBlock ∧ k_ ≠ s_.2.2.2) s_.1 t104) ∧ (Kd.V (Kd.int .u8) 5 w' w.heap.size (fun k_ => some k_ ≠ (s_.2.2.1 : Value).ownBlock ∧ k_ ≠ s_.2.2.2) s_.2.1 t109) ∧ (Kd.R (Kd.int .u8) 5 w' w.heap.size (fun _ => True) s_.2.2.1 t114) ∧ (w'.heap[s_.2.2.2]? = some (.cells #[.int .i64 0, .int .i64 0, .slice none 0 0] 35 (0, 0))) ∧ (w.heap.size ≤ s_.2.2.2) ∧ (w.heap.size ≤ s_.2.2.2) ∧ (Below w.heap.size w w')) ?_ ?_
     rotate_left
     ·intro hJ1_3_6_8
      refine join_ (σ := Value × Value × Value) 5 #[true, true, true, true, true, true, true, false, false, false, false, false] (fun s_ => [(14, .agg #[.int .i64 t102, .int .i64 t103, s_.1]), (16, .agg #[.int .i64 t107, .int .i64 t108, s_.2.1]), (19, .agg #[.int .i64 t112, .int .i64 t113, s_.2.2])]) (fun s_ w' => (Kd.V (Kd.int .u8) 5 w' w.heap.size (fun k_ => some k_ ≠ (s_.2.2 : Value).ownBlock) s_.1 t104) ∧ (Kd.V (Kd.int .u8) 5 w' w.heap.size (fun k_ => some k_ ≠ (s_.2.2 : Value).ownBlock) s_.2.1 t109) ∧ (Kd.R (Kd.int .u8) 5 w' w.heap.size (fun _ => True) s_.2.2 t114) ∧ (Below w.heap.size w w')) ?_ ?_
      rotate_left
      ·intro hJ1_3_6
       refine join_ (σ := Value × Value × Nat) 5 #[true, true, true, true, true, true, false, false, true, false, false, false] (fun s_ => [(14, .agg #[.int .i64 t102, .int .i64 t103, s_.1]), (16, .agg #[.int .i64 t107, .int .i64 t108, s_.2.1]), (6, .pointer (some ⟨s_.2.2, 0, none⟩))]) (fun s_ w' => (Kd.V (Kd.int .u8) 5 w' w.heap.size (fun k_ => k_ ≠ s_.2.2) s_.1 t104) ∧ (Kd.V (Kd.int .u8) 5 w' w.heap.size (fun k_ => k_ ≠ s_.2.2) s_.2.1 t109) ∧ (w'.heap[s_.2.2]? = some (.cells #[.int .i64 0, .int .i64 0, .slice none 0 0] 35 (0, 0))) ∧ (w.heap.size ≤ s_.2.2) ∧ (w.heap.size ≤ s_.2.2) ∧ (Below w.heap.size w w')) ?_ ?_
       rotate_left
       ·intro hJ1_3_8
        refine join_ (σ := Value × Value) 6 #[true, true, true, true, true, true, false, false, false, false, false, false] (fun s_ => [(14, .agg #[.int .i64 t102, .int .i64 t103, s_.1]), (16, .agg #[.int .i64 t107, .int .i64 t108, s_.2])]) (fun s_ w' => (Kd.V (Kd.int .u8) 5 w' w.heap.size (fun _ => True) s_.1 t104) ∧ (Kd.V (Kd.int .u8) 5 w' w.heap.size (fun _ => True) s_.2 t109) ∧ (Below w.heap.size w w')) ?_ ?_
        rotate_left
        ·intro hJ1_3
         refine join_ (σ := Value × Nat) 6 #[true, true, true, false, true, true, false, false, true, false, false, false] (fun s_ => [(14, .agg #[.int .i64 t102, .int .i64 t103, s_.1]), (6, .pointer (some ⟨s_.2, 0, none⟩))]) (fun s_ w' => (Kd.V (Kd.int .u8) 5 w' w.heap.size (fun k_ => k_ ≠ s_.2) s_.1 t104) ∧ (w'.heap[s_.2]? = some (.cells #[.int .i64 0, .int .i64 0, .slice none 0 0] 35 (0, 0))) ∧ (w.heap.size ≤ s_.2) ∧ (w.heap.size ≤ s_.2) ∧ (Below w.heap.size w w')) ?_ ?_
         rotate_left
         ·intro hJ1_8
          refine join_ (σ := Value) 7 #[true, true, true, false, true, true, false, false, false, false, false, false] (fun s_ => [(14, .agg #[.int .i64 t102, .int .i64 t103, s_])]) (fun s_ w' => (Kd.V (Kd.int .u8) 5 w' w.heap.size (fun _ => True) s_ t104) ∧ (Below w.heap.size w w')) ?_ ?_
          rotate_left
          ·intro hJ1
           refine join_ (σ := Nat) 7 #[true, false, true, false, true, true, false, false, true, false, false, false] (fun s_ => [(6, .pointer (some ⟨s_, 0, none⟩))]) (fun s_ w' => (w'.heap[s_]? = some (.cells #[.int .i64 0, .int .i64 0, .slice none 0 0] 35 (0, 0))) ∧ (w.heap.size ≤ s_) ∧ (w.heap.size ≤ s_) ∧ (Below w.heap.size w w')) ?_ ?_
           rotate_left
           ·intro hJ8
            refine two_ (i := 1) (j := 8) (Ni := some 14) (Nj := some 6) #[true, true, true, false, true, true, false, false, false, false, false, false] #[true, false, true, false, true, true, false, false, true, false, false, false] rfl rfl rfl rfl (two_of HT_.out (by kernel_rfl)) (by decide) (by decide) (fun K hK => ?_) (fun K hK => ?_)
            ·skip
             refine goes_ Tryz.func13 (by kernel_rfl) rfl #[.string a0] (by rfl) rfl rfl (by (try simp only [List.map_toArray, List.map_cons, List.map_nil]); first | done | rfl | (simp only [List.length_drop, List.length_take]; rfl)) ?_
             with_reducible refine (impl_read.calls a0 t102 t103 t104 _ ?side1 A5.out).mono ?_
             (case side1 => (refine GoodW.below HG.out ?_); exact bel HB)
             rintro e w13 ⟨v105, rfl, ho0, hb⟩
             refine ⟨_, rfl, ?_⟩
             have n0_ := Aside0.mk (Kd.V_lower (Kd.V_mono (ok' := fun k_ => True) ho0 (fun k_ hk_ => trivial)) (below_size (bel HB)))
             have n1_ := Aside0.mk (below_step (bel HB) hb)
             clear HB
             have HO106 := n0_
             have HB := n1_
             clear n0_ n1_
             (try clear hb)
             (try clear hb2)
             (try clear hk)
             (try clear hi)
             (try clear ho0)
             refine hK.out _ _ trivial (fun hHeld => ?_)
             clear hK K
             refine norm_ (a' := ?_) ?_ ?_
             rotate_left
             ·show Act.put _ (some 14) _ = _
              simp only [Act.put, List.setIfInBounds_toArray, List.set_cons_zero, List.set_cons_succ, i64_w, i32_w]
              rfl
             exact norm_ (by first | (simp only [putAll, Act.put, List.setIfInBounds_toArray, List.set_cons_zero, List.set_cons_succ]; done) | (simp only [putAll, Act.put, List.setIfInBounds_toArray, List.set_cons_zero, List.set_cons_succ]; rfl)) (hJ1 (v105) _ ⟨(by (with_reducible repeat (first | apply Kd.V_alloc | apply Kd.V_drewN | apply Kd.V_drew)); (first | exact HO106.out | exact R_any HO106.out)), (bel HB)⟩)
            ·skip
             refine box_step ?hg (N := 6) ?hd (cs := #[.int .i64 0, .int .i64 0, .slice none 0 0]) (t := 35) ?hr ?_; (case hd => rfl); (case hg => rfl); (case hr => first | (go_simp; done) | (go_simp; rfl))
             intro gb118 hg w13 hbox hb
             have n0_ := Aside0.mk (below_step (bel HB) hb)
             have n1_ := Aside0.mk (hbox)
             have n2_ := Aside0.mk (gsz hg (bel HB))
             have n3_ := Aside0.mk (gsz hg (bel HB))
             clear HB
             have HB := n0_
             have BK118 := n1_
             have GW118 := n2_
             have GE118 := n3_
             clear n0_ n1_ n2_ n3_
             clear hb hbox hg
             refine hK.out _ _ trivial (fun hHeld => ?_)
             clear hK K
             refine norm_ (a' := ?_) ?_ ?_
             rotate_left
             ·show Act.put _ (some 6) _ = _
              simp only [Act.put, List.setIfInBounds_toArray, List.set_cons_zero, List.set_cons_succ, i64_w, i32_w]
              rfl
             exact norm_ (by first | (simp only [putAll, Act.put, List.setIfInBounds_toArray, List.set_cons_zero, List.set_cons_succ]; done) | (simp only [putAll, Act.put, List.setIfInBounds_toArray, List.set_cons_zero, List.set_cons_succ]; rfl)) (hJ8 (gb118) _ ⟨blc, GW118.out, GE118.out, (bel HB)⟩)
           ·skip
            rintro gb118 w14 ⟨h0_, h1_, h2_, h3_⟩
            have n0_ : Aside0 (w14.heap[gb118]? = some (.cells #[.int .i64 0, .int .i64 0, .slice none 0 0] 35 (0, 0))) := ⟨h0_⟩
            have n1_ : Aside0 (w.heap.size ≤ gb118) := ⟨h1_⟩
            have n2_ : Aside0 (w.heap.size ≤ gb118) := ⟨h2_⟩
            have n3_ : Aside0 (Below w.heap.size w w14) := ⟨h3_⟩
            clear HB
            clear h0_ h1_ h2_ h3_
            have BK118 := n0_
            have GW118 := n1_
            have GE118 := n2_
            have HB := n3_
            clear n0_ n1_ n2_ n3_
            have hHeld := trivial
            refine norm_ (a' := ?_) ?_ ?_
            rotate_left
            ·simp only [putAll, Act.put, List.setIfInBounds_toArray, List.set_cons_zero, List.set_cons_succ]
             rfl
            refine one_ (i := 1) (N := some 14) #[true, true, true, false, true, true, false, false, true, false, false, false] rfl rfl (one_of HT_.out (by kernel_rfl)) (by decide) (fun K hK => ?_)
            refine goes_ Tryz.func13 (by kernel_rfl) rfl #[.string a0] (by rfl) rfl rfl (by (try simp only [List.map_toArray, List.map_cons, List.map_nil]); first | done | rfl | (simp only [List.length_drop, List.length_take]; rfl)) ?_
            with_reducible refine (impl_read.calls a0 t102 t103 t104 _ ?side1 A5.out).mono ?_
            (case side1 => (refine GoodW.below HG.out ?_); exact bel HB)
            rintro e w15 ⟨v105, rfl, ho0, hb⟩
            refine ⟨_, rfl, ?_⟩
            have n0_ := Aside0.mk (Kd.V_lower (Kd.V_mono (ok' := fun k_ => k_ ≠ gb118) ho0 (fun k_ hk_ => (Kd.freshB (g := gb118) (o := .cells #[.int .i64 0, .int .i64 0, .slice none 0 0] 35 (0, 0)) blc k_ hk_))) (below_size (bel HB)))
            have n1_ := Aside0.mk (blk_below (g := gb118) (o := .cells #[.int .i64 0, .int .i64 0, .slice none 0 0] 35 (0, 0)) blc hb)
            have n2_ := Aside0.mk (below_step (bel HB) hb)
            clear BK118
            clear HB
            have HO106 := n0_
            have BK118 := n1_
            have HB := n2_
            clear n0_ n1_ n2_
            (try clear hb)
            (try clear hb2)
            (try clear hk)
            (try clear hi)
            (try clear ho0)
            refine hK.out _ _ trivial (fun hHeld => ?_)
            clear hK K
            refine norm_ (a' := ?_) ?_ ?_
            rotate_left
            ·show Act.put _ (some 14) _ = _
             simp only [Act.put, List.setIfInBounds_toArray, List.set_cons_zero, List.set_cons_succ, i64_w, i32_w]
             rfl
            exact norm_ (by first | (simp only [putAll, Act.put, List.setIfInBounds_toArray, List.set_cons_zero, List.set_cons_succ]; done) | (simp only [putAll, Act.put, List.setIfInBounds_toArray, List.set_cons_zero, List.set_cons_succ]; rfl)) (hJ1_8 (v105, gb118) _ ⟨(by (with_reducible repeat (first | apply Kd.V_alloc | apply Kd.V_drewN | apply Kd.V_drew)); (first | exact HO106.out | exact R_any HO106.out)), blc, GW118.out, GE118.out, (bel HB)⟩)
          ·skip
           rintro v105 w14 ⟨h0_, h1_⟩
           have n0_ : Aside0 (Kd.V (Kd.int .u8) 5 w14 w.heap.size (fun _ => True) v105 t104) := ⟨h0_⟩
           have n1_ : Aside0 (Below w.heap.size w w14) := ⟨h1_⟩
           clear HB
           clear h0_ h1_
           have HO106 := n0_
           have HB := n1_
           clear n0_ n1_
           have hHeld := trivial
           refine norm_ (a' := ?_) ?_ ?_
           rotate_left
           ·simp only [putAll, Act.put, List.setIfInBounds_toArray, List.set_cons_zero, List.set_cons_succ]
            rfl
           refine two_ (i := 3) (j := 8) (Ni := some 16) (Nj := some 6) #[true, true, true, true, true, true, false, false, false, false, false, false] #[true, true, true, false, true, true, false, false, true, false, false, false] rfl rfl rfl rfl (two_of HT_.out (by kernel_rfl)) (by decide) (by decide) (fun K hK => ?_) (fun K hK => ?_)
           ·skip
            refine goes_ Tryz.func13 (by kernel_rfl) rfl #[.string a0] (by rfl) rfl rfl (by (try simp only [List.map_toArray, List.map_cons, List.map_nil]); first | done | rfl | (simp only [List.length_drop, List.length_take]; rfl)) ?_
            with_reducible refine (impl_read.calls a0 t107 t108 t109 _ ?side1 A6.out).mono ?_
            (case side1 => (refine GoodW.below HG.out ?_); exact bel HB)
            rintro e w15 ⟨v110, rfl, ho0, hb⟩
            refine ⟨_, rfl, ?_⟩
            have n0_ := Aside0.mk (Kd.V_below (by (with_reducible repeat (first | apply Kd.V_alloc | apply Kd.V_drewN | apply Kd.V_drew)); (first | exact HO106.out | exact R_any HO106.out)) hb)
            have n1_ := Aside0.mk (Kd.V_lower (Kd.V_mono (ok' := fun k_ => True) ho0 (fun k_ hk_ => trivial)) (below_size (bel HB)))
            have n2_ := Aside0.mk (below_step (bel HB) hb)
            clear HO106
            clear HB
            have HO106 := n0_
            have HO111 := n1_
            have HB := n2_
            clear n0_ n1_ n2_
            (try clear hb)
            (try clear hb2)
            (try clear hk)
            (try clear hi)
            (try clear ho0)
            refine hK.out _ _ trivial (fun hHeld => ?_)
            clear hK K
            refine norm_ (a' := ?_) ?_ ?_
            rotate_left
            ·show Act.put _ (some 16) _ = _
             simp only [Act.put, List.setIfInBounds_toArray, List.set_cons_zero, List.set_cons_succ, i64_w, i32_w]
             rfl
            exact norm_ (by first | (simp only [putAll, Act.put, List.setIfInBounds_toArray, List.set_cons_zero, List.set_cons_succ]; done) | (simp only [putAll, Act.put, List.setIfInBounds_toArray, List.set_cons_zero, List.set_cons_succ]; rfl)) (hJ1_3 (v105, v110) _ ⟨(by (with_reducible repeat (first | apply Kd.V_alloc | apply Kd.V_drewN | apply Kd.V_drew)); (first | exact HO106.out | exact R_any HO106.out)), (by (with_reducible repeat (first | apply Kd.V_alloc | apply Kd.V_drewN | apply Kd.V_drew)); (first | exact HO111.out | exact R_any HO111.out)), (bel HB)⟩)
           ·skip
            refine box_step ?hg (N := 6) ?hd (cs := #[.int .i64 0, .int .i64 0, .slice none 0 0]) (t := 35) ?hr ?_; (case hd => rfl); (case hg => rfl); (case hr => first | (go_simp; done) | (go_simp; rfl))
            intro gb118 hg w15 hbox hb
            have n0_ := Aside0.mk (Kd.V_below (Kd.V_elderB (by (with_reducible repeat (first | apply Kd.V_alloc | apply Kd.V_drewN | apply Kd.V_drew)); (first | exact HO106.out | exact R_any HO106.out)) gb118 (Nat.le_of_eq hg.symm)) hb)
            have n1_ := Aside0.mk (below_step (bel HB) hb)
            have n2_ := Aside0.mk (hbox)
            have n3_ := Aside0.mk (gsz hg (bel HB))
            have n4_ := Aside0.mk (gsz hg (bel HB))
            clear HO106
            clear HB
            have HO106 := n0_
            have HB := n1_
            have BK118 := n2_
            have GW118 := n3_
            have GE118 := n4_
            clear n0_ n1_ n2_ n3_ n4_
            clear hb hbox hg
            refine hK.out _ _ trivial (fun hHeld => ?_)
            clear hK K
            refine norm_ (a' := ?_) ?_ ?_
            rotate_left
            ·show Act.put _ (some 6) _ = _
             simp only [Act.put, List.setIfInBounds_toArray, List.set_cons_zero, List.set_cons_succ, i64_w, i32_w]
             rfl
            exact norm_ (by first | (simp only [putAll, Act.put, List.setIfInBounds_toArray, List.set_cons_zero, List.set_cons_succ]; done) | (simp only [putAll, Act.put, List.setIfInBounds_toArray, List.set_cons_zero, List.set_cons_succ]; rfl)) (hJ1_8 (v105, gb118) _ ⟨(by (with_reducible repeat (first | apply Kd.V_alloc | apply Kd.V_drewN | apply Kd.V_drew)); exact Kd.V_mono HO106.out (fun _ hk => hk.2)), blc, GW118.out, GE118.out, (bel HB)⟩)
         ·skip
          rintro ⟨v105, gb118⟩ w15 ⟨h0_, h1_, h2_, h3_, h4_⟩
          have n0_ : Aside0 (Kd.V (Kd.int .u8) 5 w15 w.heap.size (fun k_ => k_ ≠ gb118) v105 t104) := ⟨h0_⟩
          have n1_ : Aside0 (w15.heap[gb118]? = some (.cells #[.int .i64 0, .int .i64 0, .slice none 0 0] 35 (0, 0))) := ⟨h1_⟩
          have n2_ : Aside0 (w.heap.size ≤ gb118) := ⟨h2_⟩
          have n3_ : Aside0 (w.heap.size ≤ gb118) := ⟨h3_⟩
          have n4_ : Aside0 (Below w.heap.size w w15) := ⟨h4_⟩
          clear HB
          clear h0_ h1_ h2_ h3_ h4_
          have HO106 := n0_
          have BK118 := n1_
          have GW118 := n2_
          have GE118 := n3_
          have HB := n4_
          clear n0_ n1_ n2_ n3_ n4_
          have hHeld := trivial
          refine norm_ (a' := ?_) ?_ ?_
          rotate_left
          ·simp only [putAll, Act.put, List.setIfInBounds_toArray, List.set_cons_zero, List.set_cons_succ]
           rfl
          refine one_ (i := 3) (N := some 16) #[true, true, true, true, true, true, false, false, true, false, false, false] rfl rfl (one_of HT_.out (by kernel_rfl)) (by decide) (fun K hK => ?_)
          refine goes_ Tryz.func13 (by kernel_rfl) rfl #[.string a0] (by rfl) rfl rfl (by (try simp only [List.map_toArray, List.map_cons, List.map_nil]); first | done | rfl | (simp only [List.length_drop, List.length_take]; rfl)) ?_
          with_reducible refine (impl_read.calls a0 t107 t108 t109 _ ?side1 A6.out).mono ?_
          (case side1 => (refine GoodW.below HG.out ?_); exact bel HB)
          rintro e w16 ⟨v110, rfl, ho0, hb⟩
          refine ⟨_, rfl, ?_⟩
          have n0_ := Aside0.mk (Kd.V_below (by (with_reducible repeat (first | apply Kd.V_alloc | apply Kd.V_drewN | apply Kd.V_drew)); (first | exact HO106.out | exact R_any HO106.out)) hb)
          have n1_ := Aside0.mk (Kd.V_lower (Kd.V_mono (ok' := fun k_ => k_ ≠ gb118) ho0 (fun k_ hk_ => (Kd.freshB (g := gb118) (o := .cells #[.int .i64 0, .int .i64 0, .slice none 0 0] 35 (0, 0)) blc k_ hk_))) (below_size (bel HB)))
          have n2_ := Aside0.mk (blk_below (g := gb118) (o := .cells #[.int .i64 0, .int .i64 0, .slice none 0 0] 35 (0, 0)) blc hb)
          have n3_ := Aside0.mk (below_step (bel HB) hb)
          clear HO106
          clear BK118
          clear HB
          have HO106 := n0_
          have HO111 := n1_
          have BK118 := n2_
          have HB := n3_
          clear n0_ n1_ n2_ n3_
          (try clear hb)
          (try clear hb2)
          (try clear hk)
          (try clear hi)
          (try clear ho0)
          refine hK.out _ _ trivial (fun hHeld => ?_)
          clear hK K
          refine norm_ (a' := ?_) ?_ ?_
          rotate_left
          ·show Act.put _ (some 16) _ = _
           simp only [Act.put, List.setIfInBounds_toArray, List.set_cons_zero, List.set_cons_succ, i64_w, i32_w]
           rfl
          exact norm_ (by first | (simp only [putAll, Act.put, List.setIfInBounds_toArray, List.set_cons_zero, List.set_cons_succ]; done) | (simp only [putAll, Act.put, List.setIfInBounds_toArray, List.set_cons_zero, List.set_cons_succ]; rfl)) (hJ1_3_8 (v105, v110, gb118) _ ⟨(by (with_reducible repeat (first | apply Kd.V_alloc | apply Kd.V_drewN | apply Kd.V_drew)); (first | exact HO106.out | exact R_any HO106.out)), (by (with_reducible repeat (first | apply Kd.V_alloc | apply Kd.V_drewN | apply Kd.V_drew)); (first | exact HO111.out | exact R_any HO111.out)), blc, GW118.out, GE118.out, (bel HB)⟩)
        ·skip
         rintro ⟨v105, v110⟩ w15 ⟨h0_, h1_, h2_⟩
         have n0_ : Aside0 (Kd.V (Kd.int .u8) 5 w15 w.heap.size (fun _ => True) v105 t104) := ⟨h0_⟩
         have n1_ : Aside0 (Kd.V (Kd.int .u8) 5 w15 w.heap.size (fun _ => True) v110 t109) := ⟨h1_⟩
         have n2_ : Aside0 (Below w.heap.size w w15) := ⟨h2_⟩
         clear HB
         clear h0_ h1_ h2_
         have HO106 := n0_
         have HO111 := n1_
         have HB := n2_
         clear n0_ n1_ n2_
         have hHeld := trivial
         obtain ⟨Ao16, co16, eo16⟩ := Kd.V_slice HO111.out
         (first | subst eo16 | (injection eo16 with f1_ f2_ f3_; have f4_ := f1_.symm; have f5_ := f3_.symm; clear f1_ f2_ f3_; subst f4_; subst f5_))
         refine norm_ (a' := ?_) ?_ ?_
         rotate_left
         ·simp only [putAll, Act.put, List.setIfInBounds_toArray, List.set_cons_zero, List.set_cons_succ]
          rfl
         refine two_ (i := 6) (j := 8) (Ni := some 19) (Nj := some 6) #[true, true, true, true, true, true, true, false, false, false, false, false] #[true, true, true, true, true, true, false, false, true, false, false, false] rfl rfl rfl rfl (two_of HT_.out (by kernel_rfl)) (by decide) (by decide) (fun K hK => ?_) (fun K hK => ?_)
         ·skip
          refine goes_ Tryz.func17 (by kernel_rfl) rfl #[.agg #[.int .i64 t107, .int .i64 t108, .slice Ao16 t109.length co16], .int .u8 (bt a1 0)] (by rfl) rfl rfl (by (try simp only [List.map_toArray, List.map_cons, List.map_nil]); first | done | rfl | (simp only [List.length_drop, List.length_take]; rfl)) ?_
          with_reducible refine (impl_tray_tilted.calls k t107 t108 _ _ t109 (bt a1 0) t112 t113 t114 _ ?side1 ?side2 A9.out).mono ?_
          (case side1 => repeat (first | exact (Kd.V_reads' HO111.out).2.2 | (with_reducible refine Kd.C_alloc ?_ _) | (with_reducible refine Kd.C_drewN ?_ _) | (with_reducible refine Kd.C_drew ?_)))
          (case side2 => exact (Kd.V_reads' HO111.out).2.1)
          rintro e w17 ⟨v115, rfl, ho0, hb⟩
          refine ⟨_, rfl, ?_⟩
          have n0_ := Aside0.mk (Kd.V_elder' (by (with_reducible repeat (first | apply Kd.V_alloc | apply Kd.V_drewN | apply Kd.V_drew)); (first | exact HO106.out | exact R_any HO106.out)) (Kd.R_base ho0) hb)
          have n1_ := Aside0.mk (Kd.V_elder' (by (with_reducible repeat (first | apply Kd.V_alloc | apply Kd.V_drewN | apply Kd.V_drew)); (first | exact HO111.out | exact R_any HO111.out)) (Kd.R_base ho0) hb)
          have n2_ := Aside0.mk (Kd.R_lower ho0 (below_size (bel HB)))
          have n3_ := Aside0.mk (below_step (bel HB) hb)
          clear HO106
          clear HO111
          clear HB
          have HO106 := n0_
          have HO111 := n1_
          have HO116 := n2_
          have HB := n3_
          clear n0_ n1_ n2_ n3_
          (try clear hb)
          (try clear hb2)
          (try clear hk)
          (try clear hi)
          (try clear ho0)
          refine hK.out _ _ trivial (fun hHeld => ?_)
          clear hK K
          refine norm_ (a' := ?_) ?_ ?_
          rotate_left
          ·show Act.put _ (some 19) _ = _
           simp only [Act.put, List.setIfInBounds_toArray, List.set_cons_zero, List.set_cons_succ, i64_w, i32_w]
           rfl
          exact norm_ (by first | (simp only [putAll, Act.put, List.setIfInBounds_toArray, List.set_cons_zero, List.set_cons_succ]; done) | (simp only [putAll, Act.put, List.setIfInBounds_toArray, List.set_cons_zero, List.set_cons_succ]; rfl)) (hJ1_3_6 (v105, .slice Ao16 t109.length co16, v115) _ ⟨(by (with_reducible repeat (first | apply Kd.V_alloc | apply Kd.V_drewN | apply Kd.V_drew)); exact Kd.V_mono HO106.out (fun _ hk => hk.2)), (by (with_reducible repeat (first | apply Kd.V_alloc | apply Kd.V_drewN | apply Kd.V_drew)); exact Kd.V_mono HO111.out (fun _ hk => hk.2)), (rch HO116), (bel HB)⟩)
         ·skip
          refine box_step ?hg (N := 6) ?hd (cs := #[.int .i64 0, .int .i64 0, .slice none 0 0]) (t := 35) ?hr ?_; (case hd => rfl); (case hg => rfl); (case hr => first | (go_simp; done) | (go_simp; rfl))
          intro gb118 hg w16 hbox hb
          have n0_ := Aside0.mk (Kd.V_below (Kd.V_elderB (by (with_reducible repeat (first | apply Kd.V_alloc | apply Kd.V_drewN | apply Kd.V_drew)); (first | exact HO106.out | exact R_any HO106.out)) gb118 (Nat.le_of_eq hg.symm)) hb)
          have n1_ := Aside0.mk (Kd.V_below (Kd.V_elderB (by (with_reducible repeat (first | apply Kd.V_alloc | apply Kd.V_drewN | apply Kd.V_drew)); (first | exact HO111.out | exact R_any HO111.out)) gb118 (Nat.le_of_eq hg.symm)) hb)
          have n2_ := Aside0.mk (below_step (bel HB) hb)
          have n3_ := Aside0.mk (hbox)
          have n4_ := Aside0.mk (gsz hg (bel HB))
          have n5_ := Aside0.mk (gsz hg (bel HB))
          clear HO106
          clear HO111
          clear HB
          have HO106 := n0_
          have HO111 := n1_
          have HB := n2_
          have BK118 := n3_
          have GW118 := n4_
          have GE118 := n5_
          clear n0_ n1_ n2_ n3_ n4_ n5_
          clear hb hbox hg
          refine hK.out _ _ trivial (fun hHeld => ?_)
          clear hK K
          refine norm_ (a' := ?_) ?_ ?_
          rotate_left
          ·show Act.put _ (some 6) _ = _
           simp only [Act.put, List.setIfInBounds_toArray, List.set_cons_zero, List.set_cons_succ, i64_w, i32_w]
           rfl
          exact norm_ (by first | (simp only [putAll, Act.put, List.setIfInBounds_toArray, List.set_cons_zero, List.set_cons_succ]; done) | (simp only [putAll, Act.put, List.setIfInBounds_toArray, List.set_cons_zero, List.set_cons_succ]; rfl)) (hJ1_3_8 (v105, .slice Ao16 t109.length co16, gb118) _ ⟨(by (with_reducible repeat (first | apply Kd.V_alloc | apply Kd.V_drewN | apply Kd.V_drew)); exact Kd.V_mono HO106.out (fun _ hk => hk.2)), (by (with_reducible repeat (first | apply Kd.V_alloc | apply Kd.V_drewN | apply Kd.V_drew)); exact Kd.V_mono HO111.out (fun _ hk => hk.2)), blc, GW118.out, GE118.out, (bel HB)⟩)
       ·skip
        rintro ⟨v105, v110, gb118⟩ w16 ⟨h0_, h1_, h2_, h3_, h4_, h5_⟩
        have n0_ : Aside0 (Kd.V (Kd.int .u8) 5 w16 w.heap.size (fun k_ => k_ ≠ gb118) v105 t104) := ⟨h0_⟩
        have n1_ : Aside0 (Kd.V (Kd.int .u8) 5 w16 w.heap.size (fun k_ => k_ ≠ gb118) v110 t109) := ⟨h1_⟩
        have n2_ : Aside0 (w16.heap[gb118]? = some (.cells #[.int .i64 0, .int .i64 0, .slice none 0 0] 35 (0, 0))) := ⟨h2_⟩
        have n3_ : Aside0 (w.heap.size ≤ gb118) := ⟨h3_⟩
        have n4_ : Aside0 (w.heap.size ≤ gb118) := ⟨h4_⟩
        have n5_ : Aside0 (Below w.heap.size w w16) := ⟨h5_⟩
        clear HB
        clear h0_ h1_ h2_ h3_ h4_ h5_
        have HO106 := n0_
        have HO111 := n1_
        have BK118 := n2_
        have GW118 := n3_
        have GE118 := n4_
        have HB := n5_
        clear n0_ n1_ n2_ n3_ n4_ n5_
        have hHeld := trivial
        obtain ⟨Ao17, co17, eo17⟩ := Kd.V_slice HO111.out
        (first | subst eo17 | (injection eo17 with f1_ f2_ f3_; have f4_ := f1_.symm; have f5_ := f3_.symm; clear f1_ f2_ f3_; subst f4_; subst f5_))
        refine norm_ (a' := ?_) ?_ ?_
        rotate_left
        ·simp only [putAll, Act.put, List.setIfInBounds_toArray, List.set_cons_zero, List.set_cons_succ]
         rfl
        refine one_ (i := 6) (N := some 19) #[true, true, true, true, true, true, true, false, true, false, false, false] rfl rfl (one_of HT_.out (by kernel_rfl)) (by decide) (fun K hK => ?_)
        refine goes_ Tryz.func17 (by kernel_rfl) rfl #[.agg #[.int .i64 t107, .int .i64 t108, .slice Ao17 t109.length co17], .int .u8 (bt a1 0)] (by rfl) rfl rfl (by (try simp only [List.map_toArray, List.map_cons, List.map_nil]); first | done | rfl | (simp only [List.length_drop, List.length_take]; rfl)) ?_
        with_reducible refine (impl_tray_tilted.calls k t107 t108 _ _ t109 (bt a1 0) t112 t113 t114 _ ?side1 ?side2 A9.out).mono ?_
        (case side1 => repeat (first | exact (Kd.V_reads' HO111.out).2.2 | (with_reducible refine Kd.C_alloc ?_ _) | (with_reducible refine Kd.C_drewN ?_ _) | (with_reducible refine Kd.C_drew ?_)))
        (case side2 => exact (Kd.V_reads' HO111.out).2.1)
        rintro e w18 ⟨v115, rfl, ho0, hb⟩
        refine ⟨_, rfl, ?_⟩
        have n0_ := Aside0.mk (Kd.V_elder' (by (with_reducible repeat (first | apply Kd.V_alloc | apply Kd.V_drewN | apply Kd.V_drew)); (first | exact HO106.out | exact R_any HO106.out)) (Kd.R_base ho0) hb)
        have n1_ := Aside0.mk (Kd.V_elder' (by (with_reducible repeat (first | apply Kd.V_alloc | apply Kd.V_drewN | apply Kd.V_drew)); (first | exact HO111.out | exact R_any HO111.out)) (Kd.R_base ho0) hb)
        have n2_ := Aside0.mk (Kd.R_lower ho0 (below_size (bel HB)))
        have n3_ := Aside0.mk (blk_below (g := gb118) (o := .cells #[.int .i64 0, .int .i64 0, .slice none 0 0] 35 (0, 0)) blc hb)
        have n4_ := Aside0.mk (below_step (bel HB) hb)
        clear HO106
        clear HO111
        clear BK118
        clear HB
        have HO106 := n0_
        have HO111 := n1_
        have HO116 := n2_
        have BK118 := n3_
        have HB := n4_
        clear n0_ n1_ n2_ n3_ n4_
        (try clear hb)
        (try clear hb2)
        (try clear hk)
        (try clear hi)
        (try clear ho0)
        refine hK.out _ _ trivial (fun hHeld => ?_)
        clear hK K
        refine norm_ (a' := ?_) ?_ ?_
        rotate_left
        ·show Act.put _ (some 19) _ = _
         simp only [Act.put, List.setIfInBounds_toArray, List.set_cons_zero, List.set_cons_succ, i64_w, i32_w]
         rfl
        exact norm_ (by first | (simp only [putAll, Act.put, List.setIfInBounds_toArray, List.set_cons_zero, List.set_cons_succ]; done) | (simp only [putAll, Act.put, List.setIfInBounds_toArray, List.set_cons_zero, List.set_cons_succ]; rfl)) (hJ1_3_6_8 (v105, .slice Ao17 t109.length co17, v115, gb118) _ ⟨(by (with_reducible repeat (first | apply Kd.V_alloc | apply Kd.V_drewN | apply Kd.V_drew)); exact Kd.V_mono HO106.out (fun _ hk => ⟨hk.2, hk.1⟩)), (by (with_reducible repeat (first | apply Kd.V_alloc | apply Kd.V_drewN | apply Kd.V_drew)); exact Kd.V_mono HO111.out (fun _ hk => ⟨hk.2, hk.1⟩)), (rch HO116), blc, GW118.out, GE118.out, (bel HB)⟩)
      ·skip
       rintro ⟨v105, v110, v115⟩ w17 ⟨h0_, h1_, h2_, h3_⟩
       have n0_ : Aside0 (Kd.V (Kd.int .u8) 5 w17 w.heap.size (fun k_ => some k_ ≠ (v115 : Value).ownBlock) v105 t104) := ⟨h0_⟩
       have n1_ : Aside0 (Kd.V (Kd.int .u8) 5 w17 w.heap.size (fun k_ => some k_ ≠ (v115 : Value).ownBlock) v110 t109) := ⟨h1_⟩
       have n2_ : Aside0 (Kd.R (Kd.int .u8) 5 w17 w.heap.size (fun _ => True) v115 t114) := ⟨h2_⟩
       have n3_ : Aside0 (Below w.heap.size w w17) := ⟨h3_⟩
       clear HB
       clear h0_ h1_ h2_ h3_
       have HO106 := n0_
       have HO111 := n1_
       have HO116 := n2_
       have HB := n3_
       clear n0_ n1_ n2_ n3_
       have hHeld := trivial
       obtain ⟨Ao18, co18, eo18⟩ := Kd.R_slice HO116.out
       (first | subst eo18 | (injection eo18 with f1_ f2_ f3_; have f4_ := f1_.symm; have f5_ := f3_.symm; clear f1_ f2_ f3_; subst f4_; subst f5_))
       refine norm_ (a' := ?_) ?_ ?_
       rotate_left
       ·simp only [putAll, Act.put, List.setIfInBounds_toArray, List.set_cons_zero, List.set_cons_succ]
        rfl
       refine two_ (i := 7) (j := 8) (Ni := some 20) (Nj := some 6) #[true, true, true, true, true, true, true, true, false, false, false, false] #[true, true, true, true, true, true, true, false, true, false, false, false] rfl rfl rfl rfl (two_of HT_.out (by kernel_rfl)) (by decide) (by decide) (fun K hK => ?_) (fun K hK => ?_)
       ·skip
        refine goes_ Tryz.func15 (by kernel_rfl) rfl #[.agg #[.int .i64 t112, .int .i64 t113, .slice Ao18 t114.length co18]] (by rfl) rfl rfl (by (try simp only [List.map_toArray, List.map_cons, List.map_nil]); first | done | rfl | (simp only [List.length_drop, List.length_take]; rfl)) ?_
        with_reducible refine (impl_tray_text.calls t112 t113 _ _ t114 t117 _ ?side1 ?side2 A10.out).mono ?_
        (case side1 => repeat (first | exact (Kd.R_reads' HO116.out).2.2 | (with_reducible refine Kd.C_alloc ?_ _) | (with_reducible refine Kd.C_drewN ?_ _) | (with_reducible refine Kd.C_drew ?_)))
        (case side2 => exact (Kd.R_reads' HO116.out).2.1)
        rintro e w19 ⟨rfl, hb⟩
        refine ⟨_, rfl, ?_⟩
        have n0_ := Aside0.mk (Kd.V_below (by (with_reducible repeat (first | apply Kd.V_alloc | apply Kd.V_drewN | apply Kd.V_drew)); (first | exact HO106.out | exact R_any HO106.out)) hb)
        have n1_ := Aside0.mk (Kd.V_below (by (with_reducible repeat (first | apply Kd.V_alloc | apply Kd.V_drewN | apply Kd.V_drew)); (first | exact HO111.out | exact R_any HO111.out)) hb)
        have n2_ := Aside0.mk (Kd.R_below (rch HO116) hb)
        have n3_ := Aside0.mk (below_step (bel HB) hb)
        clear HO106
        clear HO111
        clear HO116
        clear HB
        have HO106 := n0_
        have HO111 := n1_
        have HO116 := n2_
        have HB := n3_
        clear n0_ n1_ n2_ n3_
        (try clear hb)
        (try clear hb2)
        (try clear hk)
        (try clear hi)
        refine hK.out _ _ trivial (fun hHeld => ?_)
        clear hK K
        refine norm_ (a' := ?_) ?_ ?_
        rotate_left
        ·show Act.put _ (some 20) _ = _
         simp only [Act.put, List.setIfInBounds_toArray, List.set_cons_zero, List.set_cons_succ, i64_w, i32_w]
         rfl
        exact norm_ (by first | (simp only [putAll, Act.put, List.setIfInBounds_toArray, List.set_cons_zero, List.set_cons_succ]; done) | (simp only [putAll, Act.put, List.setIfInBounds_toArray, List.set_cons_zero, List.set_cons_succ]; rfl)) (hJ1_3_6_7 (v105, v110, .slice Ao18 t114.length co18) _ ⟨(by (with_reducible repeat (first | apply Kd.V_alloc | apply Kd.V_drewN | apply Kd.V_drew)); (first | exact HO106.out | exact R_any HO106.out)), (by (with_reducible repeat (first | apply Kd.V_alloc | apply Kd.V_drewN | apply Kd.V_drew)); (first | exact HO111.out | exact R_any HO111.out)), (rch HO116), (bel HB)⟩)
       ·skip
        refine box_step ?hg (N := 6) ?hd (cs := #[.int .i64 0, .int .i64 0, .slice none 0 0]) (t := 35) ?hr ?_; (case hd => rfl); (case hg => rfl); (case hr => first | (go_simp; done) | (go_simp; rfl))
        intro gb118 hg w18 hbox hb
        have n0_ := Aside0.mk (Kd.V_below (Kd.V_elderB (by (with_reducible repeat (first | apply Kd.V_alloc | apply Kd.V_drewN | apply Kd.V_drew)); (first | exact HO106.out | exact R_any HO106.out)) gb118 (Nat.le_of_eq hg.symm)) hb)
        have n1_ := Aside0.mk (Kd.V_below (Kd.V_elderB (by (with_reducible repeat (first | apply Kd.V_alloc | apply Kd.V_drewN | apply Kd.V_drew)); (first | exact HO111.out | exact R_any HO111.out)) gb118 (Nat.le_of_eq hg.symm)) hb)
        have n2_ := Aside0.mk (Kd.R_below (rch HO116) hb)
        have n3_ := Aside0.mk (below_step (bel HB) hb)
        have n4_ := Aside0.mk (hbox)
        have n5_ := Aside0.mk (gsz hg (bel HB))
        have n6_ := Aside0.mk (gsz hg (bel HB))
        clear HO106
        clear HO111
        clear HO116
        clear HB
        have HO106 := n0_
        have HO111 := n1_
        have HO116 := n2_
        have HB := n3_
        have BK118 := n4_
        have GW118 := n5_
        have GE118 := n6_
        clear n0_ n1_ n2_ n3_ n4_ n5_ n6_
        clear hb hbox hg
        refine hK.out _ _ trivial (fun hHeld => ?_)
        clear hK K
        refine norm_ (a' := ?_) ?_ ?_
        rotate_left
        ·show Act.put _ (some 6) _ = _
         simp only [Act.put, List.setIfInBounds_toArray, List.set_cons_zero, List.set_cons_succ, i64_w, i32_w]
         rfl
        exact norm_ (by first | (simp only [putAll, Act.put, List.setIfInBounds_toArray, List.set_cons_zero, List.set_cons_succ]; done) | (simp only [putAll, Act.put, List.setIfInBounds_toArray, List.set_cons_zero, List.set_cons_succ]; rfl)) (hJ1_3_6_8 (v105, v110, .slice Ao18 t114.length co18, gb118) _ ⟨(by (with_reducible repeat (first | apply Kd.V_alloc | apply Kd.V_drewN | apply Kd.V_drew)); (first | exact HO106.out | exact R_any HO106.out)), (by (with_reducible repeat (first | apply Kd.V_alloc | apply Kd.V_drewN | apply Kd.V_drew)); (first | exact HO111.out | exact R_any HO111.out)), (rch HO116), blc, GW118.out, GE118.out, (bel HB)⟩)
     ·skip
      rintro ⟨v105, v110, v115, gb118⟩ w18 ⟨h0_, h1_, h2_, h3_, h4_, h5_, h6_⟩
      have n0_ : Aside0 (Kd.V (Kd.int .u8) 5 w18 w.heap.size (fun k_ => some k_ ≠ (v115 : Value).ownBlock ∧ k_ ≠ gb118) v105 t104) := ⟨h0_⟩
      have n1_ : Aside0 (Kd.V (Kd.int .u8) 5 w18 w.heap.size (fun k_ => some k_ ≠ (v115 : Value).ownBlock ∧ k_ ≠ gb118) v110 t109) := ⟨h1_⟩
      have n2_ : Aside0 (Kd.R (Kd.int .u8) 5 w18 w.heap.size (fun _ => True) v115 t114) := ⟨h2_⟩
      have n3_ : Aside0 (w18.heap[gb118]? = some (.cells #[.int .i64 0, .int .i64 0, .slice none 0 0] 35 (0, 0))) := ⟨h3_⟩
      have n4_ : Aside0 (w.heap.size ≤ gb118) := ⟨h4_⟩
      have n5_ : Aside0 (w.heap.size ≤ gb118) := ⟨h5_⟩
      have n6_ : Aside0 (Below w.heap.size w w18) := ⟨h6_⟩
      clear HB
      clear h0_ h1_ h2_ h3_ h4_ h5_ h6_
      have HO106 := n0_
      have HO111 := n1_
      have HO116 := n2_
      have BK118 := n3_
      have GW118 := n4_
      have GE118 := n5_
      have HB := n6_
      clear n0_ n1_ n2_ n3_ n4_ n5_ n6_
      have hHeld := trivial
      obtain ⟨Ao19, co19, eo19⟩ := Kd.R_slice HO116.out
      (first | subst eo19 | (injection eo19 with f1_ f2_ f3_; have f4_ := f1_.symm; have f5_ := f3_.symm; clear f1_ f2_ f3_; subst f4_; subst f5_))
      refine norm_ (a' := ?_) ?_ ?_
      rotate_left
      ·simp only [putAll, Act.put, List.setIfInBounds_toArray, List.set_cons_zero, List.set_cons_succ]
       rfl
      refine one_ (i := 7) (N := some 20) #[true, true, true, true, true, true, true, true, true, false, false, false] rfl rfl (one_of HT_.out (by kernel_rfl)) (by decide) (fun K hK => ?_)
      refine goes_ Tryz.func15 (by kernel_rfl) rfl #[.agg #[.int .i64 t112, .int .i64 t113, .slice Ao19 t114.length co19]] (by rfl) rfl rfl (by (try simp only [List.map_toArray, List.map_cons, List.map_nil]); first | done | rfl | (simp only [List.length_drop, List.length_take]; rfl)) ?_
      with_reducible refine (impl_tray_text.calls t112 t113 _ _ t114 t117 _ ?side1 ?side2 A10.out).mono ?_
      (case side1 => repeat (first | exact (Kd.R_reads' HO116.out).2.2 | (with_reducible refine Kd.C_alloc ?_ _) | (with_reducible refine Kd.C_drewN ?_ _) | (with_reducible refine Kd.C_drew ?_)))
      (case side2 => exact (Kd.R_reads' HO116.out).2.1)
      rintro e w20 ⟨rfl, hb⟩
      refine ⟨_, rfl, ?_⟩
      have n0_ := Aside0.mk (Kd.V_below (by (with_reducible repeat (first | apply Kd.V_alloc | apply Kd.V_drewN | apply Kd.V_drew)); (first | exact HO106.out | exact R_any HO106.out)) hb)
      have n1_ := Aside0.mk (Kd.V_below (by (with_reducible repeat (first | apply Kd.V_alloc | apply Kd.V_drewN | apply Kd.V_drew)); (first | exact HO111.out | exact R_any HO111.out)) hb)
      have n2_ := Aside0.mk (Kd.R_below (rch HO116) hb)
      have n3_ := Aside0.mk (blk_below (g := gb118) (o := .cells #[.int .i64 0, .int .i64 0, .slice none 0 0] 35 (0, 0)) blc hb)
      have n4_ := Aside0.mk (below_step (bel HB) hb)
      clear HO106
      clear HO111
      clear HO116
      clear BK118
      clear HB
      have HO106 := n0_
      have HO111 := n1_
      have HO116 := n2_
      have BK118 := n3_
      have HB := n4_
      clear n0_ n1_ n2_ n3_ n4_
      (try clear hb)
      (try clear hb2)
      (try clear hk)
      (try clear hi)
      refine hK.out _ _ trivial (fun hHeld => ?_)
      clear hK K
      refine norm_ (a' := ?_) ?_ ?_
      rotate_left
      ·show Act.put _ (some 20) _ = _
       simp only [Act.put, List.setIfInBounds_toArray, List.set_cons_zero, List.set_cons_succ, i64_w, i32_w]
       rfl
      exact norm_ (by first | (simp only [putAll, Act.put, List.setIfInBounds_toArray, List.set_cons_zero, List.set_cons_succ]; done) | (simp only [putAll, Act.put, List.setIfInBounds_toArray, List.set_cons_zero, List.set_cons_succ]; rfl)) (hJ1_3_6_7_8 (v105, v110, .slice Ao19 t114.length co19, gb118) _ ⟨(by (with_reducible repeat (first | apply Kd.V_alloc | apply Kd.V_drewN | apply Kd.V_drew)); (first | exact HO106.out | exact R_any HO106.out)), (by (with_reducible repeat (first | apply Kd.V_alloc | apply Kd.V_drewN | apply Kd.V_drew)); (first | exact HO111.out | exact R_any HO111.out)), (rch HO116), blc, GW118.out, GE118.out, (bel HB)⟩)
    ·skip
     rintro ⟨v105, v110, v115⟩ w19 ⟨h0_, h1_, h2_, h3_⟩
     have n0_ : Aside0 (Kd.V (Kd.int .u8) 5 w19 w.heap.size (fun k_ => some k_ ≠ (v115 : Value).ownBlock) v105 t104) := ⟨h0_⟩
     have n1_ : Aside0 (Kd.V (Kd.int .u8) 5 w19 w.heap.size (fun k_ => some k_ ≠ (v115 : Value).ownBlock) v110 t109) := ⟨h1_⟩
     have n2_ : Aside0 (Kd.R (Kd.int .u8) 5 w19 w.heap.size (fun _ => True) v115 t114) := ⟨h2_⟩
     have n3_ : Aside0 (Below w.heap.size w w19) := ⟨h3_⟩
     clear HB
     clear h0_ h1_ h2_ h3_
     have HO106 := n0_
     have HO111 := n1_
     have HO116 := n2_
     have HB := n3_
     clear n0_ n1_ n2_ n3_
     have hHeld := trivial
     refine norm_ (a' := ?_) ?_ ?_
     rotate_left
     ·simp only [putAll, Act.put, List.setIfInBounds_toArray, List.set_cons_zero, List.set_cons_succ]
      rfl
     refine one_ (i := 8) (N := some 6) #[true, true, true, true, true, true, true, true, true, false, false, false] rfl rfl (one_of HT_.out (by kernel_rfl)) (by decide) (fun K hK => ?_)
     refine box_step ?hg (N := 6) ?hd (cs := #[.int .i64 0, .int .i64 0, .slice none 0 0]) (t := 35) ?hr ?_; (case hd => rfl); (case hg => rfl); (case hr => first | (go_simp; done) | (go_simp; rfl))
     intro gb118 hg w20 hbox hb
     have n0_ := Aside0.mk (Kd.V_below (Kd.V_elderB (by (with_reducible repeat (first | apply Kd.V_alloc | apply Kd.V_drewN | apply Kd.V_drew)); (first | exact HO106.out | exact R_any HO106.out)) gb118 (Nat.le_of_eq hg.symm)) hb)
     have n1_ := Aside0.mk (Kd.V_below (Kd.V_elderB (by (with_reducible repeat (first | apply Kd.V_alloc | apply Kd.V_drewN | apply Kd.V_drew)); (first | exact HO111.out | exact R_any HO111.out)) gb118 (Nat.le_of_eq hg.symm)) hb)
     have n2_ := Aside0.mk (Kd.R_below (rch HO116) hb)
     have n3_ := Aside0.mk (below_step (bel HB) hb)
     have n4_ := Aside0.mk (hbox)
     have n5_ := Aside0.mk (gsz hg (bel HB))
     have n6_ := Aside0.mk (gsz hg (bel HB))
     clear HO106
     clear HO111
     clear HO116
     clear HB
     have HO106 := n0_
     have HO111 := n1_
     have HO116 := n2_
     have HB := n3_
     have BK118 := n4_
     have GW118 := n5_
     have GE118 := n6_
     clear n0_ n1_ n2_ n3_ n4_ n5_ n6_
     clear hb hbox hg
     refine hK.out _ _ trivial (fun hHeld => ?_)
     clear hK K
     refine norm_ (a' := ?_) ?_ ?_
     rotate_left
     ·show Act.put _ (some 6) _ = _
      simp only [Act.put, List.setIfInBounds_toArray, List.set_cons_zero, List.set_cons_succ, i64_w, i32_w]
      rfl
     exact norm_ (by first | (simp only [putAll, Act.put, List.setIfInBounds_toArray, List.set_cons_zero, List.set_cons_succ]; done) | (simp only [putAll, Act.put, List.setIfInBounds_toArray, List.set_cons_zero, List.set_cons_succ]; rfl)) (hJ1_3_6_7_8 (v105, v110, v115, gb118) _ ⟨(by (with_reducible repeat (first | apply Kd.V_alloc | apply Kd.V_drewN | apply Kd.V_drew)); (first | exact HO106.out | exact R_any HO106.out)), (by (with_reducible repeat (first | apply Kd.V_alloc | apply Kd.V_drewN | apply Kd.V_drew)); (first | exact HO111.out | exact R_any HO111.out)), (rch HO116), blc, GW118.out, GE118.out, (bel HB)⟩)
   rintro ⟨v105, v110, v115, gb118⟩ w20 ⟨h0_, h1_, h2_, h3_, h4_, h5_, h6_⟩
   have n0_ : Aside0 (Kd.V (Kd.int .u8) 5 w20 w.heap.size (fun k_ => some k_ ≠ (v115 : Value).ownBlock ∧ k_ ≠ gb118) v105 t104) := ⟨h0_⟩
   have n1_ : Aside0 (Kd.V (Kd.int .u8) 5 w20 w.heap.size (fun k_ => some k_ ≠ (v115 : Value).ownBlock ∧ k_ ≠ gb118) v110 t109) := ⟨h1_⟩
   have n2_ : Aside0 (Kd.R (Kd.int .u8) 5 w20 w.heap.size (fun _ => True) v115 t114) := ⟨h2_⟩
   have n3_ : Aside0 (w20.heap[gb118]? = some (.cells #[.int .i64 0, .int .i64 0, .slice none 0 0] 35 (0, 0))) := ⟨h3_⟩
   have n4_ : Aside0 (w.heap.size ≤ gb118) := ⟨h4_⟩
   have n5_ : Aside0 (w.heap.size ≤ gb118) := ⟨h5_⟩
   have n6_ : Aside0 (Below w.heap.size w w20) := ⟨h6_⟩
   clear HB
   clear h0_ h1_ h2_ h3_ h4_ h5_ h6_
   have HO106 := n0_
   have HO111 := n1_
   have HO116 := n2_
   have BK118 := n3_
   have GW118 := n4_
   have GE118 := n5_
   have HB := n6_
   clear n0_ n1_ n2_ n3_ n4_ n5_ n6_
   have hHeld := trivial
   obtain ⟨Ao23, co23, eo23⟩ := Kd.V_slice HO106.out
   (first | subst eo23 | (injection eo23 with f1_ f2_ f3_; have f4_ := f1_.symm; have f5_ := f3_.symm; clear f1_ f2_ f3_; subst f4_; subst f5_))
   refine norm_ (a' := ?_) ?_ ?_
   rotate_left
   ·simp only [putAll, Act.put, List.setIfInBounds_toArray, List.set_cons_zero, List.set_cons_succ]
    rfl
   refine one_ (i := 9) (N := none) #[true, true, true, true, true, true, true, true, true, true, false, false] rfl rfl (one_of HT_.out (by kernel_rfl)) (by decide) (fun K hK => ?_)
   have hs21 : w20.cell? ⟨gb118, 0, none⟩ = some (.int .i64 0) := (blk_cell BK118.out 0).trans rfl
   have hfs21 := blk_frozen BK118.out 0
   have hs22 : w20.cell? ⟨gb118, 1, none⟩ = some (.int .i64 0) := (blk_cell BK118.out 1).trans rfl
   have hfs22 := blk_frozen BK118.out 1
   have hs24 : w20.cell? ⟨gb118, 2, none⟩ = some (.slice none 0 0) := (blk_cell BK118.out 2).trans rfl
   have hfs24 := blk_frozen BK118.out 2
   refine skip_ (w1 := ?_) (by rfl) rfl ?_ ?_
   rotate_left
   ·go_simp
    rfl
   refine hK.out _ _ trivial (fun hHeld => ?_)
   clear hK K
   refine pure_ (i := 10) (N := some 7) (v := ?_) (a' := ?_) #[true, true, true, true, true, true, true, true, true, true, true, false] rfl rfl (any_of HT_.out (by kernel_rfl)) (fun _ _ _ h => h) (Or.inl ⟨by rfl, ?_⟩) ?_ ?_
   rotate_left
   ·intro w'
    go_simp
    with_reducible rfl
   rotate_left
   ·simp only [Act.put, List.setIfInBounds_toArray, List.set_cons_zero, List.set_cons_succ, i64_w, i32_w]
    rfl
   refine pure_ (i := 11) (N := some 8) (v := ?_) (a' := ?_) #[true, true, true, true, true, true, true, true, true, true, true, true] rfl rfl (any_of HT_.out (by kernel_rfl)) (fun _ _ _ h => h) (Or.inl ⟨by rfl, ?_⟩) ?_ ?_
   rotate_left
   ·intro w'
    go_simp
    with_reducible rfl
   rotate_left
   ·simp only [Act.put, List.setIfInBounds_toArray, List.set_cons_zero, List.set_cons_succ, i64_w, i32_w]
    rfl
   refine done_ (done_of HT_.out (by kernel_rfl)) ?_
   try go_wp2
   go_loopg [8] k (fun kq v8 w' => ∃ (x8_1 : Int) (x119000_1 : Int) (x119001_1 : Int) (x119002_1 : List Int) (u119002 : Value), v8 = .int .i64 x8_1 ∧ Aside0 (impl_StepsOfTilt.l0 kq a1 t117 x8_1 x119000_1 x119001_1 x119002_1 = some (r1, r2)) ∧ Aside0 (kq ≤ k) ∧ Aside0 (Kd.V (Kd.int .u8) 5 w' w.heap.size (fun k_ => k_ ≠ gb118) u119002 x119002_1) ∧ Aside0 (w'.heap[gb118]? = some (.cells #[.int .i64 x119000_1, .int .i64 x119001_1, u119002] 35 (0, 0))) ∧ Aside0 (Below w.heap.size w w'))
   case atStart => exact ⟨(0), (t102), (t103), (t104), (.slice Ao23 t104.length co23), (by first | rfl | (simp; done) | (simp [*]; done)), H', ⟨Nat.le_refl _⟩, ⟨by (with_reducible repeat (first | apply Kd.V_alloc | apply Kd.V_drewN | apply Kd.V_drew)); exact Kd.V_mono (Kd.V_far (p := ⟨gb118, 2, none⟩) (Kd.V_far (p := ⟨gb118, 1, none⟩) (Kd.V_far (p := ⟨gb118, 0, none⟩) (Kd.V_mono HO106.out (fun k_ hk => (⟨hk, hk.2⟩ : _ ∧ k_ ≠ gb118))) (fun _ hk => hk.2) (.int .i64 t102)) (fun _ hk => hk.2) (.int .i64 t103)) (fun _ hk => hk.2) (.slice Ao23 t104.length co23)) (fun _ hk => hk.1.2)⟩, ⟨by (with_reducible repeat (first | refine blk_drewN ?_ _ | refine blk_drew ?_ | refine blk_alloc ?_ _)); refine blk_put (cs := #[.int .i64 t102, .int .i64 t103, .slice none 0 0]) ?_ 2 _ rfl; (with_reducible repeat (first | refine blk_drewN ?_ _ | refine blk_drew ?_ | refine blk_alloc ?_ _)); refine blk_put (cs := #[.int .i64 t102, .int .i64 0, .slice none 0 0]) ?_ 1 _ rfl; (with_reducible repeat (first | refine blk_drewN ?_ _ | refine blk_drew ?_ | refine blk_alloc ?_ _)); refine blk_put (cs := #[.int .i64 0, .int .i64 0, .slice none 0 0]) ?_ 0 _ rfl; exact blc⟩, ⟨bel HB⟩⟩
   case round =>
    clear H'
    try clear c1
    try clear p2
    try clear c13
    try clear c15
    try clear c17
    obtain ⟨x8_1, x119000_1, x119001_1, x119002_1, u119002, rfl, HA, HK1, HO_119002, BK118, HB⟩ := hrel
    cases gk with
    | zero => exact absurd HA.out (by simp [impl_StepsOfTilt.l0])
    | succ k1 =>
     have H := HA.out
     clear HA
     simp only [impl_StepsOfTilt.l0] at H
     replace H := Option.bind_eq_some_iff.mp H
     obtain ⟨t119, A250, H⟩ := H
     replace H : (if t119.toList = t117.toList then (some (x8_1, true)) else (if 0 < (a1.size : Int) then ((impl_tray_stepped.f k1 x119000_1 x119001_1 x119002_1 (bt a1 0)).bind fun bt120 => (impl_StepsOfTilt.l0 k1 a1 t117 (wrap64 (x8_1 + 1)) bt120.1 bt120.2.1 bt120.2.2)) else (none))) = some (r1, r2) := H
     have A25 := Aside0.mk A250
     clear A250
     by_cases c26 : t119.toList = t117.toList
     ·rw [if_pos c26] at H
      have c26b0 : (t119.toList == t117.toList) = true := beq_iff_eq.mpr c26
      have c26b1 : (t119.toList != t117.toList) = false := bne_eq_false_iff_eq.mpr c26
      clear c26
      simp only [Option.some.injEq, Prod.mk.injEq] at H
      obtain ⟨rfl, rfl⟩ := H
      have hcz27_0 : wr.cell? ⟨gb118, 0, none⟩ = some (.int .i64 x119000_1) := (blk_cell BK118.out 0).trans rfl
      have hcz27_1 : wr.cell? ⟨gb118, 1, none⟩ = some (.int .i64 x119001_1) := (blk_cell BK118.out 1).trans rfl
      have hcz27_2 : wr.cell? ⟨gb118, 2, none⟩ = some (u119002) := (blk_cell BK118.out 2).trans rfl
      have hfz27_0 := blk_frozen BK118.out 0
      have hfz27_1 := blk_frozen BK118.out 1
      have hfz27_2 := blk_frozen BK118.out 2
      obtain ⟨Ao28, co28, eo28⟩ := Kd.V_slice HO_119002.out
      subst eo28
      go_wp2_with (first | ((with_reducible refine gate_callee (f := 15) rfl ?_); refine gcall (some 22) Tryz.func15 #[.agg #[.int .i64 x119000_1, .int .i64 x119001_1, .slice Ao28 x119002_1.length co28]] rfl ?_; (with_reducible refine (impl_tray_text.calls x119000_1 x119001_1 _ _ x119002_1 t119 _ ?side1 ?side2 A25.out).mono ?_); (case side1 => repeat (first | exact (Kd.V_reads' HO_119002.out).2.2 | (with_reducible refine Kd.C_alloc ?_ _) | (with_reducible refine Kd.C_drewN ?_ _) | (with_reducible refine Kd.C_drew ?_))); (case side2 => exact (Kd.V_reads' HO_119002.out).2.1); rintro e w29 ⟨rfl, hb⟩; refine ⟨_, rfl, ?_⟩; have n0_ := Aside0.mk (Kd.V_below (by (with_reducible repeat (first | apply Kd.V_alloc | apply Kd.V_drewN | apply Kd.V_drew)); (first | exact HO_119002.out | exact R_any HO_119002.out)) hb); have n1_ := Aside0.mk (blk_below (g := gb118) (o := .cells #[.int .i64 x119000_1, .int .i64 x119001_1, .slice Ao28 x119002_1.length co28] 35 (0, 0)) blc hb); have n2_ := Aside0.mk (below_step (bel HB) hb); clear HO_119002; clear BK118; clear HB; have HO_119002 := n0_; have BK118 := n1_; have HB := n2_; clear n0_ n1_ n2_; (try clear hb); (try clear hb2); (try clear hk); (try clear hi)))
      go_ret2
      exact ⟨by first | rfl | (simp [errW_none, errW_some] <;> rfl) | (simp [*, errW_none, errW_some] <;> rfl), bel HB⟩
     ·rw [if_neg c26] at H
      have c26b0 : (t119.toList == t117.toList) = false := beq_eq_false_iff_ne.mpr c26
      have c26b1 : (t119.toList != t117.toList) = true := bne_iff_ne.mpr c26
      by_cases c30 : 0 < (a1.size : Int)
      ·rw [if_pos c30] at H
       have c30b0 : decide (0 < (a1.size : Int)) = true := decide_eq_true c30
       have c30b1 : decide (0 < a1.size) = true := decide_eq_true (by omega)
       clear c30
       replace H := Option.bind_eq_some_iff.mp H
       obtain ⟨⟨t120, t121, t122⟩, A320, H⟩ := H
       replace H : (impl_StepsOfTilt.l0 k1 a1 t117 (wrap64 (x8_1 + 1)) t120 t121 t122) = some (r1, r2) := H
       have A32 := Aside0.mk A320
       clear A320
       have H' := Aside0.mk H
       clear H
       have hcz33_0 : wr.cell? ⟨gb118, 0, none⟩ = some (.int .i64 x119000_1) := (blk_cell BK118.out 0).trans rfl
       have hcz33_1 : wr.cell? ⟨gb118, 1, none⟩ = some (.int .i64 x119001_1) := (blk_cell BK118.out 1).trans rfl
       have hcz33_2 : wr.cell? ⟨gb118, 2, none⟩ = some (u119002) := (blk_cell BK118.out 2).trans rfl
       have hfz33_0 := blk_frozen BK118.out 0
       have hfz33_1 := blk_frozen BK118.out 1
       have hfz33_2 := blk_frozen BK118.out 2
       obtain ⟨Ao34, co34, eo34⟩ := Kd.V_slice HO_119002.out
       subst eo34
       try go_wp2_with (first | ((with_reducible refine gate_callee (f := 15) rfl ?_); refine gcall (some 22) Tryz.func15 #[.agg #[.int .i64 x119000_1, .int .i64 x119001_1, .slice Ao34 x119002_1.length co34]] rfl ?_; (with_reducible refine (impl_tray_text.calls x119000_1 x119001_1 _ _ x119002_1 t119 _ ?side1 ?side2 A25.out).mono ?_); (case side1 => repeat (first | exact (Kd.V_reads' HO_119002.out).2.2 | (with_reducible refine Kd.C_alloc ?_ _) | (with_reducible refine Kd.C_drewN ?_ _) | (with_reducible refine Kd.C_drew ?_))); (case side2 => exact (Kd.V_reads' HO_119002.out).2.1); rintro e w35 ⟨rfl, hb⟩; refine ⟨_, rfl, ?_⟩; have n0_ := Aside0.mk (Kd.V_below (by (with_reducible repeat (first | apply Kd.V_alloc | apply Kd.V_drewN | apply Kd.V_drew)); (first | exact HO_119002.out | exact R_any HO_119002.out)) hb); have n1_ := Aside0.mk (blk_below (g := gb118) (o := .cells #[.int .i64 x119000_1, .int .i64 x119001_1, .slice Ao34 x119002_1.length co34] 35 (0, 0)) blc hb); have n2_ := Aside0.mk (below_step (bel HB) hb); clear HO_119002; clear BK118; clear HB; have HO_119002 := n0_; have BK118 := n1_; have HB := n2_; clear n0_ n1_ n2_; (try clear hb); (try clear hb2); (try clear hk); (try clear hi)))
       have n0_ := Aside0.mk (Kd.V_drew HO_119002.out)
       have n1_ := Aside0.mk (blk_drew BK118.out)
       have n2_ := Aside0.mk (below_drew1 HB.out)
       clear HO_119002
       clear BK118
       clear HB
       have HO_119002 := n0_
       have BK118 := n1_
       have HB := n2_
       clear n0_ n1_ n2_
       have p31 : 0 ≤ (0 : Int) := (by omega)
       have q31 : 0 < a1.size := (by have : (0 : Int) < (a1.size : Int) := of_decide_eq_true (by first | (with_reducible assumption) | assumption); omega)
       have hx31 : ∀ h : 0 < a1.size, ((a1[0]'h).toNat : Int) = bt a1 0 := bt_at a1 0
       clear p31
       have qi31 : (0 < (a1.size : Int)) = True := eq_true (of_decide_eq_true (by first | (with_reducible assumption) | assumption))
       replace q31 := eq_true q31
       refine start_ (n := 5) (S := fun w' => w'.cell? ⟨gb118, 0, none⟩ = some (.int .i64 x119000_1) ∧ w'.cell? ⟨gb118, 1, none⟩ = some (.int .i64 x119001_1) ∧ w'.cell? ⟨gb118, 2, none⟩ = some (.slice Ao34 x119002_1.length co34)) (ds := [4]) #[false, false, false, false, false] (by kernel_rfl) rfl rfl ⟨(blk_cell BK118.out 0).trans rfl, (blk_cell BK118.out 1).trans rfl, (blk_cell BK118.out 2).trans rfl⟩ (fun hHeld => ?_)
       generalize w35.drew = w36 at HO_119002 BK118 HB hHeld ⊢
       refine pure_ (i := 1) (N := some 26) (v := ?_) (a' := ?_) #[false, true, false, false, false] rfl rfl (by kernel_rfl) (fun _ _ _ h => h) (Or.inl ⟨by rfl, ?_⟩) ?_ ?_
       rotate_left
       ·intro w'
        go_simp
        with_reducible rfl
       rotate_left
       ·simp only [Act.put, List.setIfInBounds_toArray, List.set_cons_zero, List.set_cons_succ, i64_w, i32_w]
        rfl
       refine take_ (i := 0) (N := some 25) (v := ?_) (a' := ?_) #[true, true, false, false, false] rfl rfl (by kernel_rfl) (fun _ _ _ h => h) (Or.inl ⟨by rfl, ?_⟩) hHeld ?_ ?_
       rotate_left
       ·rintro w' ⟨s0, s1, s2⟩
        go_simp
        with_reducible rfl
       rotate_left
       ·simp only [Act.put, List.setIfInBounds_toArray, List.set_cons_zero, List.set_cons_succ, i64_w, i32_w]
        rfl
       refine take_ (i := 2) (N := some 27) (v := ?_) (a' := ?_) #[true, true, true, false, false] rfl rfl (by kernel_rfl) (fun _ _ _ h => h) (Or.inl ⟨by rfl, ?_⟩) hHeld ?_ ?_
       rotate_left
       ·rintro w' ⟨s0, s1, s2⟩
        go_simp
        with_reducible rfl
       rotate_left
       ·simp only [Act.put, List.setIfInBounds_toArray, List.set_cons_zero, List.set_cons_succ, i64_w, i32_w]
        rfl
       refine one_ (i := 3) (N := some 28) #[true, true, true, true, false] rfl rfl (by kernel_rfl) (by decide) (fun K hK => ?_)
       refine goes_ Tryz.func14 (by kernel_rfl) rfl #[.agg #[.int .i64 x119000_1, .int .i64 x119001_1, .slice Ao34 x119002_1.length co34], .int .u8 (bt a1 0)] (by rfl) rfl rfl (by (try simp only [List.map_toArray, List.map_cons, List.map_nil]); first | done | rfl | (simp only [List.length_drop, List.length_take]; rfl)) ?_
       with_reducible refine (impl_tray_stepped.calls k1 x119000_1 x119001_1 _ _ x119002_1 (bt a1 0) t120 t121 t122 _ ?side1 ?side2 A32.out).mono ?_
       (case side1 => repeat (first | exact (Kd.V_reads' HO_119002.out).2.2 | (with_reducible refine Kd.C_alloc ?_ _) | (with_reducible refine Kd.C_drewN ?_ _) | (with_reducible refine Kd.C_drew ?_)))
       (case side2 => exact (Kd.V_reads' HO_119002.out).2.1)
       rintro e w37 ⟨v123, rfl, ho0, hb⟩
       refine ⟨_, rfl, ?_⟩
       have n0_ := Aside0.mk (Kd.V_elder' (by (with_reducible repeat (first | apply Kd.V_alloc | apply Kd.V_drewN | apply Kd.V_drew)); (first | exact HO_119002.out | exact R_any HO_119002.out)) (Kd.R_base ho0) hb)
       have n1_ := Aside0.mk (Kd.R_lower ho0 (below_size (bel HB)))
       have n2_ := Aside0.mk (blk_below (g := gb118) (o := .cells #[.int .i64 x119000_1, .int .i64 x119001_1, .slice Ao34 x119002_1.length co34] 35 (0, 0)) blc hb)
       have n3_ := Aside0.mk (below_step (bel HB) hb)
       clear HO_119002
       clear BK118
       clear HB
       have HO_119002 := n0_
       have HO124 := n1_
       have BK118 := n2_
       have HB := n3_
       clear n0_ n1_ n2_ n3_
       (try clear hb)
       (try clear hb2)
       (try clear hk)
       (try clear hi)
       (try clear ho0)
       obtain ⟨Ao40, co40, eo40⟩ := Kd.R_slice HO124.out
       (first | subst eo40 | (injection eo40 with f1_ f2_ f3_; have f4_ := f1_.symm; have f5_ := f3_.symm; clear f1_ f2_ f3_; subst f4_; subst f5_))
       refine hK.out _ _ ⟨(blk_cell BK118.out 0).trans rfl, (blk_cell BK118.out 1).trans rfl, (blk_cell BK118.out 2).trans rfl⟩ (fun hHeld => ?_)
       clear hK K
       refine norm_ (a' := ?_) ?_ ?_
       rotate_left
       ·show Act.put _ (some 28) _ = _
        simp only [Act.put, List.setIfInBounds_toArray, List.set_cons_zero, List.set_cons_succ, i64_w, i32_w]
        rfl
       refine last_ (i := 4) (N := none) #[true, true, true, true, true] rfl rfl (by kernel_rfl) (by decide) (fun K hK => ?_)
       have hs38 : w37.cell? ⟨gb118, 0, none⟩ = some (.int .i64 x119000_1) := (blk_cell BK118.out 0).trans rfl
       have hfs38 := blk_frozen BK118.out 0
       have hs39 : w37.cell? ⟨gb118, 1, none⟩ = some (.int .i64 x119001_1) := (blk_cell BK118.out 1).trans rfl
       have hfs39 := blk_frozen BK118.out 1
       have hs41 : w37.cell? ⟨gb118, 2, none⟩ = some (.slice Ao34 x119002_1.length co34) := (blk_cell BK118.out 2).trans rfl
       have hfs41 := blk_frozen BK118.out 2
       refine skip_ (w1 := ?_) (by rfl) rfl ?_ ?_
       rotate_left
       ·go_simp
        rfl
       refine hK.out _ _ ?_
       clear hK K
       refine done_ (by kernel_rfl) ?_
       try go_wp2
       go_roundg k1
       case measure => have := HK1.out; omega
       case rel => exact ⟨(wrap64 (x8_1 + 1)), (t120), (t121), (t122), (.slice Ao40 t122.length co40), (by first | rfl | (simp; done) | (simp [*]; done)), H', ⟨by have := HK1.out; omega⟩, ⟨Kd.R_V (by (with_reducible repeat (first | apply Kd.R_alloc | apply Kd.R_drewN | apply Kd.R_drew)); exact Kd.R_mono (Kd.R_far (p := ⟨gb118, 2, none⟩) (Kd.R_far (p := ⟨gb118, 1, none⟩) (Kd.R_far (p := ⟨gb118, 0, none⟩) (Kd.R_types (Kd.R_types HO124.out BK118.out (by decide)) BK118.out (by decide)) (fun _ hk => hk.2) (.int .i64 t120)) (fun _ hk => hk.2) (.int .i64 t121)) (fun _ hk => hk.2) (.slice Ao40 t122.length co40)) (fun _ hk => hk.1.2))⟩, ⟨by (with_reducible repeat (first | refine blk_drewN ?_ _ | refine blk_drew ?_ | refine blk_alloc ?_ _)); refine blk_put (cs := #[.int .i64 t120, .int .i64 t121, .slice Ao34 x119002_1.length co34]) ?_ 2 _ rfl; (with_reducible repeat (first | refine blk_drewN ?_ _ | refine blk_drew ?_ | refine blk_alloc ?_ _)); refine blk_put (cs := #[.int .i64 t120, .int .i64 x119001_1, .slice Ao34 x119002_1.length co34]) ?_ 1 _ rfl; (with_reducible repeat (first | refine blk_drewN ?_ _ | refine blk_drew ?_ | refine blk_alloc ?_ _)); refine blk_put (cs := #[.int .i64 x119000_1, .int .i64 x119001_1, .slice Ao34 x119002_1.length co34]) ?_ 0 _ rfl; exact blc⟩, ⟨bel HB⟩⟩
      ·rw [if_neg c30] at H
       exact absurd H (by simp)
  ·rw [if_neg c7] at H
   exact absurd H (by simp)
 ·replace c4 := Bool.eq_false_iff.mpr c4
  subst c4
  have H1 : (some (0, false)) = some (r1, r2) := by rw [if_neg (show ¬ (false = true) by decide)] at H; exact H
  clear H
  have H := H1
  clear H1
  simp only [Option.some.injEq, Prod.mk.injEq] at H
  obtain ⟨rfl, rfl⟩ := H
  go_enter Tryz.func8, Tryz.ntmps8
  go_wp2_with (first | ((with_reducible refine gate_callee (f := 12) rfl ?_); refine gcall (some 11) Tryz.func12 #[.string a0, .string a1] rfl ?_; (with_reducible refine (impl_isTilted.calls k a0 a1 false _ ?side1 A3.out).mono ?_); (case side1 => (refine GoodW.below HG.out ?_); exact bel HB); rintro e w42 ⟨rfl, hb⟩; refine ⟨_, rfl, ?_⟩; have n0_ := Aside0.mk (below_step (bel HB) hb); clear HB; have HB := n0_; clear n0_; (try clear hb); (try clear hb2); (try clear hk); (try clear hi)))
  go_ret2
  exact ⟨by first | rfl | (simp [errW_none, errW_some] <;> rfl) | (simp [*, errW_none, errW_some] <;> rfl), bel HB⟩
def laws_FnExactStepsOfTilt.f (k : Nat) (a0 : ByteArray) (a1 : ByteArray) : Option (Bool) := if (a0.size : Int) > 1048576 then (some true) else (if (a1.size : Int) > 1048576 then (some true) else ((spec_StepsOfTilt.f k a0 a1).bind fun bt101 => ((impl_StepsOfTilt.f k a0 a1).bind fun bt103 => (if bt103.1 = bt101.1 then (if (bt103.2 != bt101.2) = true then (some false) else (some true)) else (some false)))))
set_option maxHeartbeats 8000000 in
set_option maxRecDepth 100000 in
theorem laws_FnExactStepsOfTilt.calls (k : Nat) (a0 : ByteArray) (a1 : ByteArray) (r : Bool) (w : World) (hG : GoodW w) (h : laws_FnExactStepsOfTilt.f k a0 a1 = some r) :
  Calls Tryz.prog 4 #[.string a0, .string a1] w fun e w' => e = .returned (.bool r) ∧ Below w.heap.size w w' := by
 have HG := Aside0.mk hG
 clear hG
 have HB := Aside0.mk (Below.refl w.heap.size w)
 have H : (if (a0.size : Int) > 1048576 then (some true) else (if (a1.size : Int) > 1048576 then (some true) else ((spec_StepsOfTilt.f k a0 a1).bind fun bt101 => ((impl_StepsOfTilt.f k a0 a1).bind fun bt103 => (if bt103.1 = bt101.1 then (if (bt103.2 != bt101.2) = true then (some false) else (some true)) else (some false)))))) = some r := h
 clear h
 by_cases c3 : (a0.size : Int) > 1048576
 ·rw [if_pos c3] at H
  have c3b0 : decide (1048576 < (a0.size : Int)) = true := decide_eq_true c3
  have c3b1 : decide (1048576 < a0.size) = true := decide_eq_true (by omega)
  clear c3
  obtain rfl := Option.some.inj H
  go_enter Tryz.func4, Tryz.ntmps4
  go_wp2
  go_ret
  exact ⟨by first | rfl | (simp [errW_none, errW_some] <;> rfl) | (simp [*, errW_none, errW_some] <;> rfl), bel HB⟩
 ·rw [if_neg c3] at H
  have c3b0 : decide (1048576 < (a0.size : Int)) = false := decide_eq_false c3
  have c3b1 : decide (1048576 < a0.size) = false := decide_eq_false (by omega)
  clear c3
  by_cases c4 : (a1.size : Int) > 1048576
  ·rw [if_pos c4] at H
   have c4b0 : decide (1048576 < (a1.size : Int)) = true := decide_eq_true c4
   have c4b1 : decide (1048576 < a1.size) = true := decide_eq_true (by omega)
   clear c4
   obtain rfl := Option.some.inj H
   go_enter Tryz.func4, Tryz.ntmps4
   go_wp2
   go_ret
   exact ⟨by first | rfl | (simp [errW_none, errW_some] <;> rfl) | (simp [*, errW_none, errW_some] <;> rfl), bel HB⟩
  ·rw [if_neg c4] at H
   have c4b0 : decide (1048576 < (a1.size : Int)) = false := decide_eq_false c4
   have c4b1 : decide (1048576 < a1.size) = false := decide_eq_false (by omega)
   clear c4
   replace H := Option.bind_eq_some_iff.mp H
   obtain ⟨⟨t101, t102⟩, A50, H⟩ := H
   replace H : ((impl_StepsOfTilt.f k a0 a1).bind fun bt103 => (if bt103.1 = t101 then (if (bt103.2 != t102) = true then (some false) else (some true)) else (some false))) = some r := H
   have A5 := Aside0.mk A50
   clear A50
   replace H := Option.bind_eq_some_iff.mp H
   obtain ⟨⟨t103, t104⟩, A60, H⟩ := H
   replace H : (if t103 = t101 then (if (t104 != t102) = true then (some false) else (some true)) else (some false)) = some r := H
   have A6 := Aside0.mk A60
   clear A60
   by_cases c7 : t103 = t101
   ·rw [if_pos c7] at H
    have c7b0 : (t103 == t101) = true := beq_iff_eq.mpr c7
    have c7b1 : (t103 != t101) = false := bne_eq_false_iff_eq.mpr c7
    clear c7
    by_cases c8 : (t104 != t102) = true
    ·rw [if_pos c8] at H
     have c8b0 : (t104 != t102) = true := c8
     (try (have c8b1 : decide (t104 = t102) = false := by simpa using c8))
     (try (have c8b2 : (t104 == t102) = false := by simpa using c8))
     (try (have c8b3 : ¬ (t104 = t102) := by simpa using c8))
     clear c8
     obtain rfl := Option.some.inj H
     go_enter Tryz.func4, Tryz.ntmps4
     go_wp2_with (first | ((with_reducible refine gate_callee (f := 7) rfl ?_); refine gcall (some 18) Tryz.func7 #[.string a0, .string a1] rfl ?_; (with_reducible refine (spec_StepsOfTilt.calls k a0 a1 t101 t102 _ A5.out).mono ?_); rintro e w9 ⟨rfl, hb⟩; refine ⟨_, rfl, ?_⟩; have n0_ := Aside0.mk (below_step (bel HB) hb); clear HB; have HB := n0_; clear n0_; (try clear hb); (try clear hb2); (try clear hk); (try clear hi)) | ((with_reducible refine gate_callee (f := 8) rfl ?_); refine gcall (some 24) Tryz.func8 #[.string a0, .string a1] rfl ?_; (with_reducible refine (impl_StepsOfTilt.calls k a0 a1 t103 t104 _ ?side1 A6.out).mono ?_); (case side1 => (refine GoodW.below HG.out ?_); exact bel HB); rintro e w10 ⟨rfl, hb⟩; refine ⟨_, rfl, ?_⟩; have n0_ := Aside0.mk (below_step (bel HB) hb); clear HB; have HB := n0_; clear n0_; (try clear hb); (try clear hb2); (try clear hk); (try clear hi)))
     go_ret
     exact ⟨by first | rfl | (simp [errW_none, errW_some] <;> rfl) | (simp [*, errW_none, errW_some] <;> rfl), bel HB⟩
    ·rw [if_neg c8] at H
     have c8b0 : (t104 != t102) = false := by simpa using c8
     (try (have c8b1 : decide (t104 = t102) = true := by simpa using c8))
     (try (have c8b2 : (t104 == t102) = true := by simpa using c8))
     clear c8
     obtain rfl := Option.some.inj H
     go_enter Tryz.func4, Tryz.ntmps4
     go_wp2_with (first | ((with_reducible refine gate_callee (f := 7) rfl ?_); refine gcall (some 18) Tryz.func7 #[.string a0, .string a1] rfl ?_; (with_reducible refine (spec_StepsOfTilt.calls k a0 a1 t101 t102 _ A5.out).mono ?_); rintro e w11 ⟨rfl, hb⟩; refine ⟨_, rfl, ?_⟩; have n0_ := Aside0.mk (below_step (bel HB) hb); clear HB; have HB := n0_; clear n0_; (try clear hb); (try clear hb2); (try clear hk); (try clear hi)) | ((with_reducible refine gate_callee (f := 8) rfl ?_); refine gcall (some 24) Tryz.func8 #[.string a0, .string a1] rfl ?_; (with_reducible refine (impl_StepsOfTilt.calls k a0 a1 t103 t104 _ ?side1 A6.out).mono ?_); (case side1 => (refine GoodW.below HG.out ?_); exact bel HB); rintro e w12 ⟨rfl, hb⟩; refine ⟨_, rfl, ?_⟩; have n0_ := Aside0.mk (below_step (bel HB) hb); clear HB; have HB := n0_; clear n0_; (try clear hb); (try clear hb2); (try clear hk); (try clear hi)))
     go_ret
     exact ⟨by first | rfl | (simp [errW_none, errW_some] <;> rfl) | (simp [*, errW_none, errW_some] <;> rfl), bel HB⟩
   ·rw [if_neg c7] at H
    have c7b0 : (t103 == t101) = false := beq_eq_false_iff_ne.mpr c7
    have c7b1 : (t103 != t101) = true := bne_iff_ne.mpr c7
    obtain rfl := Option.some.inj H
    go_enter Tryz.func4, Tryz.ntmps4
    go_wp2_with (first | ((with_reducible refine gate_callee (f := 7) rfl ?_); refine gcall (some 18) Tryz.func7 #[.string a0, .string a1] rfl ?_; (with_reducible refine (spec_StepsOfTilt.calls k a0 a1 t101 t102 _ A5.out).mono ?_); rintro e w13 ⟨rfl, hb⟩; refine ⟨_, rfl, ?_⟩; have n0_ := Aside0.mk (below_step (bel HB) hb); clear HB; have HB := n0_; clear n0_; (try clear hb); (try clear hb2); (try clear hk); (try clear hi)) | ((with_reducible refine gate_callee (f := 8) rfl ?_); refine gcall (some 24) Tryz.func8 #[.string a0, .string a1] rfl ?_; (with_reducible refine (impl_StepsOfTilt.calls k a0 a1 t103 t104 _ ?side1 A6.out).mono ?_); (case side1 => (refine GoodW.below HG.out ?_); exact bel HB); rintro e w14 ⟨rfl, hb⟩; refine ⟨_, rfl, ?_⟩; have n0_ := Aside0.mk (below_step (bel HB) hb); clear HB; have HB := n0_; clear n0_; (try clear hb); (try clear hb2); (try clear hk); (try clear hi)))
    go_ret
    exact ⟨by first | rfl | (simp [errW_none, errW_some] <;> rfl) | (simp [*, errW_none, errW_some] <;> rfl), bel HB⟩
end Go.Proofs.YtcpeldgnabfdmabGreatDoor.Q
end
section
namespace Go.Proofs.YtcpeldgnabfdmabGreatDoor.Q
set_option linter.unusedSectionVars false
open Go.RowKit Go.Proofs.YtcpeldgnabfdmabGreatDoorW.PrintWords Go.Proofs.YtcpeldgnabfdmabGreatDoorW.PrintLast Go.Proofs.YtcpeldgnabfdmabGreatDoorW.PrintMore
open Classical
def stepsTo (w h d : Nat) (goal : List UInt8) : Nat → Nat → List Int → Nat
 | 0, n, _ => n
 | m + 1, n, cs => if (tx cs w h).toList = goal then n else stepsTo w h d goal m (n + 1) (stepC w h cs d)
section
variable {w h : Nat} (hw1 : 1 ≤ w) (hw : w ≤ 7) (hh1 : 1 ≤ h) (hh : h ≤ 7) (hs : w * h ≤ 36) {d : Nat} (hd : d < 4)
include hw1 hw hh1 hh hs hd
theorem stS_l0 (goal : ByteArray) : ∀ (m n : Nat) (cs : List Int), n + m = 7 → cs.length = w * h → cellsOK cs → Ev (fun k => spec_StepsOfTilt.l0 k d goal n w h cs) ((stepsTo w h d goal.toList m n cs : Int), true)
 | 0, n, cs, hnm, _, _ => by
  obtain rfl : n = 7 := by omega
  refine Ev.step (Ev.const rfl) fun k => ?_
  rw [spec_StepsOfTilt.l0, if_neg (by decide)]
  rfl
 | m + 1, n, cs, hnm, hn, hc => by
  have htx := tyText_ev (w := w) (h := h) (cs := cs) hw1 hh1 hs hn
  have ih := stS_l0 goal m (n + 1) (stepC w h cs d) (by omega) ((stepC_len hw hh hs hd).trans hn) (stepC_cells hw hh hs hd hc)
  rw [← wr1 n (by omega)] at ih
  refine Ev.step (Ev.bind (f := fun k (t115 : ByteArray) => (if t115.toList = goal.toList then (some ((n : Int), true)) else ((spec_tiStep.f k w h cs d).bind fun bt116 => (spec_StepsOfTilt.l0 k d goal (wrap64 ((n : Int) + 1)) bt116.1 bt116.2.1 bt116.2.2)))) htx ?_) fun k => ?_
  ·unfold stepsTo
   by_cases e : (tx cs w h).toList = goal.toList
   ·rw [if_pos e]
    exact Ev.congr (Ev.const rfl) fun k => if_pos e
   ·rw [if_neg e]
    exact Ev.congr (Ev.bind (f := fun k (bt116 : Int × Int × List Int) => spec_StepsOfTilt.l0 k d goal (wrap64 ((n : Int) + 1)) bt116.1 bt116.2.1 bt116.2.2) (tiStep_ev hw hh hs hd hw1 hh1 hn hc) ih) fun k => if_neg e
  ·rw [spec_StepsOfTilt.l0, if_pos (by omega)]
theorem stI_l0 (goal : ByteArray) : ∀ (m n : Nat) (cs : List Int), n + m = 7 → cs.length = w * h → (tx (stpN w h d m cs) w h).toList = goal.toList → Ev (fun k => impl_StepsOfTilt.l0 k ⟨#[dirB d]⟩ goal n w h cs) ((stepsTo w h d goal.toList m n cs : Int), true)
 | 0, n, cs, hnm, hn, hg => by
  refine Ev.step (Ev.const rfl) fun k => ?_
  rw [impl_StepsOfTilt.l0, text_val w h cs hw1 hh1 hs hn, Option.bind_some, if_pos (show (tx cs w h).toList = goal.toList from hg)]
  rfl
 | m + 1, n, cs, hnm, hn, hg => by
  have ih := stI_l0 goal m (n + 1) (stepC w h cs d) (by omega) ((stepC_len hw hh hs hd).trans hn) hg
  rw [← wr1 n (by omega)] at ih
  obtain ⟨b1, b2⟩ := bt_dir ⟨d, hd⟩
  simp only at b1 b2
  unfold stepsTo
  by_cases e : (tx cs w h).toList = goal.toList
  ·rw [if_pos e]
   refine Ev.step (Ev.const rfl) fun k => ?_
   rw [impl_StepsOfTilt.l0, text_val w h cs hw1 hh1 hs hn, Option.bind_some, if_pos e]
  ·rw [if_neg e]
   refine Ev.step (Ev.bind (f := fun k (bt120 : Int × Int × List Int) => impl_StepsOfTilt.l0 k ⟨#[dirB d]⟩ goal (wrap64 ((n : Int) + 1)) bt120.1 bt120.2.1 bt120.2.2) (stepped_ev hw hh hs hd hw1 hh1 hn) ih) fun k => ?_
   rw [impl_StepsOfTilt.l0, text_val w h cs hw1 hh1 hs hn, Option.bind_some, if_neg e, if_pos b1, b2]
end
def StepsOfTiltR (t s : ByteArray) : Int × Bool := match trayOf t with
 | none => (0, false)
 | some (w, h, cs) => if 0 ≤ dirI s then ((stepsTo w.toNat h.toNat (dirI s).toNat (tx (tiltC w.toNat h.toNat cs (dirI s).toNat) w.toNat h.toNat).toList 7 0 cs : Int), true) else (0, false)
theorem specStepsOfTilt_ev (t s : ByteArray) : Ev (fun k => spec_StepsOfTilt.f k t s) (StepsOfTiltR t s) := by
 refine Ev.bind (f := fun k (bt101 : Int × Int × List Int × Int × Bool) => (if bt101.2.2.2.2 = true then ((spec_tiTilt.f k bt101.1 bt101.2.1 bt101.2.2.1 bt101.2.2.2.1).bind fun bt109 => ((spec_tyText.f k bt109.1 bt109.2.1 bt109.2.2).bind fun t114 => (spec_StepsOfTilt.l0 k bt101.2.2.2.1 t114 0 bt101.1 bt101.2.1 bt101.2.2.1))) else (some (0, false)))) (tiRead_ev t s) ?_
 unfold StepsOfTiltR
 rcases ht : trayOf t with _ | ⟨w, h, cs⟩
 ·exact Ev.congr (Ev.const rfl) fun k => if_neg Bool.false_ne_true
 ·obtain ⟨w, h, cs, e, hw1, hw, hh1, hh, hs, hn⟩ := tray_parts ht
  injection e with e1 e2
  injection e2 with e2 e3
  subst e1 e2 e3
  have hz : 0 < w * h := Nat.mul_pos hw1 hh1
  show Ev _ (if 0 ≤ dirI s then _ else _)
  by_cases hd : 0 ≤ dirI s
  ·obtain ⟨d, hd4, e, _⟩ := dirI_nat hd
   rw [if_pos hd, e]
   simp only [Int.toNat_natCast]
   have htx := tyText_ev (w := w) (h := h) (cs := tiltC w h cs d) hw1 hh1 hs ((tiltC_len hw hh hs hd4).trans hn)
   refine Ev.congr (Ev.bind (f := fun k (bt109 : Int × Int × List Int) => ((spec_tyText.f k bt109.1 bt109.2.1 bt109.2.2).bind fun t114 => (spec_StepsOfTilt.l0 k d t114 0 w h cs))) (tiTilt_ev hw hh hs hd4 hw1 hh1 hn) (Ev.bind (f := fun k t114 => spec_StepsOfTilt.l0 k d t114 0 w h cs) htx (stS_l0 hw1 hw hh1 hh hs hd4 _ 7 0 cs rfl hn (tray_own ht).1))) fun k => ?_
   exact if_pos (decide_eq_true (show (0 : Int) ≤ (d : Int) by omega))
  ·rw [if_neg hd]
   exact Ev.congr (Ev.const rfl) fun k => if_neg (by simpa using hd)
theorem implStepsOfTilt_ev (t s : ByteArray) (ht0 : t.size ≤ 1048576) (_hs0 : s.size ≤ 1048576) : Ev (fun k => impl_StepsOfTilt.f k t s) (StepsOfTiltR t s) := by
 refine Ev.bind (f := fun k (t101 : Bool) => (if t101 = true then ((impl_read.f t).bind fun bt102 => ((impl_read.f t).bind fun bt107 => (if 0 < (s.size : Int) then ((impl_tray_tilted.f k bt107.1 bt107.2.1 bt107.2.2 (bt s 0)).bind fun bt112 => ((impl_tray_text.f bt112.1 bt112.2.1 bt112.2.2).bind fun t117 => (impl_StepsOfTilt.l0 k s t117 0 bt102.1 bt102.2.1 bt102.2.2))) else (none)))) else (some (0, false)))) (isTilted_ev t s ht0) ?_
 unfold StepsOfTiltR
 rcases ht : trayOf t with _ | ⟨w, h, cs⟩
 ·exact Ev.congr (Ev.const rfl) fun k => if_neg (by simp)
 ·have hread := tray_read ht
  obtain ⟨w, h, cs, e, hw1, hw, hh1, hh, hs, hn⟩ := tray_parts ht
  injection e with e1 e2
  injection e2 with e2 e3
  subst e1 e2 e3
  have hz : 0 < w * h := Nat.mul_pos hw1 hh1
  show Ev _ (if 0 ≤ dirI s then _ else _)
  by_cases hd : 0 ≤ dirI s
  ·obtain ⟨d, hd4, e, rfl⟩ := dirI_nat hd
   rw [if_pos hd, e]
   simp only [Int.toNat_natCast]
   obtain ⟨b1, b2⟩ := bt_dir ⟨d, hd4⟩
   simp only at b1 b2
   have htx := text_val w h (tiltC w h cs d) hw1 hh1 hs ((tiltC_len hw hh hs hd4).trans hn)
   refine Ev.congr (Ev.bind (f := fun k (bt112 : Int × Int × List Int) => ((impl_tray_text.f bt112.1 bt112.2.1 bt112.2.2).bind fun t117 => (impl_StepsOfTilt.l0 k ⟨#[dirB d]⟩ t117 0 w h cs))) (tilted_ev hw hh hs hd4 hw1 hh1 hn) (Ev.congr (stI_l0 hw1 hw hh1 hh hs hd4 (tx (tiltC w h cs d) w h) 7 0 cs rfl hn (by rw [stpN_tilt hw hh hs hd4 hn (tray_own ht).1])) fun k => ?_)) fun k => ?_
   ·show (impl_tray_text.f w h (tiltC w h cs d)).bind _ = _
    rw [htx]
    rfl
   ·rw [if_pos (show ((some ((w : Int), (h : Int), cs)).isSome && decide (0 ≤ (d : Int))) = true by rw [decide_eq_true (show (0 : Int) ≤ (d : Int) by omega)]; rfl), hread, Option.bind_some, Option.bind_some, if_pos b1, b2]
  ·rw [if_neg hd]
   exact Ev.congr (Ev.const rfl) fun k => if_neg (by simpa using hd)
theorem lawStepsOfTilt_ev (t : ByteArray) (s : ByteArray) : Ev (fun k => laws_FnExactStepsOfTilt.f k t s) true := by
 by_cases ht : t.size ≤ 1048576
 case neg =>
  refine Ev.congr (Ev.const (o := some true) rfl) fun k => ?_
  unfold laws_FnExactStepsOfTilt.f
  exact if_pos (by omega)
 by_cases hs : s.size ≤ 1048576
 case neg =>
  refine Ev.congr (Ev.const (o := some true) rfl) fun k => ?_
  unfold laws_FnExactStepsOfTilt.f
  rw [if_neg (by omega)]
  exact if_pos (by omega)
 have hsp := specStepsOfTilt_ev t s
 have him := implStepsOfTilt_ev t s ht hs
 refine Ev.congr (Ev.bind (f := fun k (bt101 : Int × Bool) => ((impl_StepsOfTilt.f k t s).bind fun bt103 => (if bt103.1 = bt101.1 then (if (bt103.2 != bt101.2) = true then (some false) else (some true)) else (some false)))) hsp (Ev.bind (f := fun _ (bt103 : Int × Bool) => (if bt103.1 = (StepsOfTiltR t s).1 then (if (bt103.2 != (StepsOfTiltR t s).2) = true then (some false) else (some true)) else (some false))) him (Ev.const ?_))) fun k => by unfold laws_FnExactStepsOfTilt.f; rw [if_neg (by omega), if_neg (by omega)]
 rw [if_pos rfl, bne_self_eq_false, if_neg (by decide)]
end Go.Proofs.YtcpeldgnabfdmabGreatDoor.Q
end
