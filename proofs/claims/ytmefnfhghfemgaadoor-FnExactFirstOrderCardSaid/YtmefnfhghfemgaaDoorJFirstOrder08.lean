/- Texts of this claim, joined. -/
import Derived.Test.YtmefnfhghfemgaaDoorJFirstOrder06
import Derived.Test.YtmefnfhghfemgaaDoorJFirstOrder01
import Derived.Test.YtmefnfhghfemgaaDoorJFirstOrder04
import Derived.Test.YtmefnfhghfemgaaDoorJFirstOrder05
import Derived.Test.YtmefnfhghfemgaaDoorJFirstOrder02
import Derived.RangeFuncBox
import Derived.WalkKit
import Derived.Laws.AppendOwn
import Derived.Shelf.SlicesE.Clone
import Derived.Test.YtmefnfhghfemgaaDoorJFirstOrder07
set_option linter.unusedVariables false
set_option linter.unusedSimpArgs false
set_option linter.unusedSectionVars false
section
namespace Go.Proofs.YtmefnfhghfemgaaDoor.Q
set_option linter.unusedSectionVars false
set_option linter.unusedSimpArgs false
set_option linter.unusedVariables false
open Go.RowKit Go.Proofs.YtmefnfhghfemgaaDoorW.PrintWords Go.Proofs.YtmefnfhghfemgaaDoorW.PrintLast Go.Proofs.YtmefnfhghfemgaaDoorW.PrintMore
def EndO (tw th : Int) (l L : List Int) (b S : Nat) (f : Int → Option Int) (W W' : World) : Prop := W.grownBy W' (some b) ∧ ∃ n' f', MP W' b n' f' ∧ TR tw th l L f' ∧ n' + mu f' ≤ 1024 ∧ ∀ x : Nat, x < S → f' (x : Int) = f (x : Int)
theorem wrap1o (n : Nat) (h : n < 1000000) : wrap64 ((n : Int) + 1) = ((n + 1 : Nat) : Int) := by unfold wrap64; omega
theorem full_eq (n S : Nat) (hn : n ≤ 10) : ((S : Int) == wrap64 (wrap64 (2 ^ min n 64) - 1)) = decide (S = 2 ^ n - 1) := by
 have h1 : (2 : Int) ^ min n 64 = ((2 ^ n : Nat) : Int) := by rw [Nat.min_eq_left (by omega)]; simp
 have h2 : 2 ^ n ≤ 2 ^ 10 := Nat.pow_le_pow_right (by decide) hn
 have h3 := Nat.two_pow_pos n
 rw [h1]
 generalize 2 ^ n = p at h2 h3 ⊢
 have h4 : wrap64 (wrap64 (p : Int) - 1) = ((p - 1 : Nat) : Int) := by unfold wrap64; omega
 rw [h4]
 by_cases e : S = p - 1
 ·rw [decide_eq_true e, e]; simp
 ·rw [decide_eq_false e]
  exact beq_false_of_ne fun h => e (Int.ofNat_inj.1 h)
theorem bit_and (S t : Nat) (hS : S < 1024) (ht : t ≤ 10) : bits .and .i64 ((S : Int) / 2 ^ min t 64) 1 = if S.testBit t = true then 1 else 0 := by
 have h1 : (2 : Int) ^ min t 64 = ((2 ^ t : Nat) : Int) := by rw [Nat.min_eq_left (by omega)]; simp
 have h2 : (S : Int) / ((2 ^ t : Nat) : Int) = ((S / 2 ^ t : Nat) : Int) := (Int.natCast_ediv _ _).symm
 have h3 : S / 2 ^ t ≤ S := Nat.div_le_self _ _
 have h4 := (bits_nat .i64 62 (by decide) (fun n h0 h1 => by rw [IntKind.wrap_i64]; omega) (S / 2 ^ t) 1 (by omega) (by decide)).1
 rw [h1, h2, show (1 : Int) = ((1 : Nat) : Int) from rfl, h4, Nat.and_one_is_mod, Nat.testBit_eq_decide_div_mod_eq]
 have h5 := Nat.mod_two_eq_zero_or_one (S / 2 ^ t)
 rcases h5 with h5 | h5 <;> rw [h5] <;> simp
theorem bit_is1 (S t : Nat) (hS : S < 1024) (ht : t ≤ 10) : (bits .and .i64 ((S : Int) / 2 ^ min t 64) 1 == 1) = S.testBit t := by
 rw [bit_and S t hS ht]
 cases S.testBit t <;> decide
theorem bit_is0 (S t : Nat) (hS : S < 1024) (ht : t ≤ 10) : (bits .and .i64 ((S : Int) / 2 ^ min t 64) 1 == 0) = !S.testBit t := by
 rw [bit_and S t hS ht]
 cases S.testBit t <;> decide
theorem pow_wrap (t : Nat) (ht : t ≤ 10) : wrap64 (2 ^ min t 64) = ((2 ^ t : Nat) : Int) := by
 have h1 : (2 : Int) ^ min t 64 = ((2 ^ t : Nat) : Int) := by rw [Nat.min_eq_left (by omega)]; simp
 have h2 : 2 ^ t ≤ 2 ^ 10 := Nat.pow_le_pow_right (by decide) ht
 rw [h1]
 generalize 2 ^ t = p at h2 ⊢
 unfold wrap64
 omega
theorem bit_put (S t : Nat) (hS : S < 1024) (ht : t ≤ 10) (hb : S.testBit t = false) : bits .or .i64 (S : Int) (wrap64 (2 ^ min t 64)) = ((S + 2 ^ t : Nat) : Int) := by
 have h2 : 2 ^ t ≤ 2 ^ 10 := Nat.pow_le_pow_right (by decide) ht
 rw [pow_wrap t ht, (bits_nat .i64 62 (by decide) (fun n h0 h1 => by rw [IntKind.wrap_i64]; omega) S (2 ^ t) (by omega) (by omega)).2, PO.put_or hb]
section
variable {go gl gq gc b : Nat} {tw th : Int} {A AL : Option Addr} {c cL : Nat} {l L : List Int}
set_option maxHeartbeats 16000000 in
set_option maxRecDepth 100000 in
theorem impl_orders1.calls (k : Nat) : ∀ (S : Nat) (r : Int) (n : Nat) (f : Int → Option Int) (W : World), OR W go gl gq gc b tw th A c l AL cL L → MP W b n f → TR tw th l L f → n + mu f ≤ 1024 → ordF k tw th l L S = some r →
  Calls Tryd.prog 67 #[.int .i64 (S : Int), .pointer (some ⟨gl, 0, none⟩), .pointer (some ⟨gq, 0, none⟩), .pointer (some ⟨go, 0, none⟩), .pointer (some ⟨gc, 0, none⟩)] W fun e W' => e = .returned (.int .i64 r) ∧ EndO tw th l L b S f W W' := by
 induction k with
 | zero => intro S r n f W _ _ _ _ h; cases h
 | succ k ih =>
  intro S r n f W hO hM hT hn h
  have h0 := h
  unfold ordF at h
  split at h
  case isFalse => cases h
  rename_i hgd
  obtain ⟨hS, hl, h10, hin⟩ := hgd
  have HO := Aside0.mk hO
  have HM := Aside0.mk hM
  have HT := Aside0.mk hT
  have HN := Aside0.mk hn
  have H0 := Aside0.mk h0
  have HS := Aside0.mk hS
  have HL := Aside0.mk hl
  have H10 := Aside0.mk h10
  have HIN := Aside0.mk hin
  clear hM hT hn h0 hS hl h10 hin
  have x0 := (blk_cell hO.lst 0).trans rfl
  have x1 := (blk_cell hO.kno 0).trans rfl
  have x2 := (blk_cell hO.own 0).trans rfl
  have x3 := (blk_cell hO.own 1).trans rfl
  have x4 := (blk_cell hO.own 2).trans rfl
  clear hO
  split at h
  ·rename_i hf
   obtain rfl := Option.some.inj h
   have e1 := full_eq L.length S H10.out
   rw [decide_eq_true hf] at e1
   clear hf h x1 x2 x3 x4
   go_enter Tryd.func67, Tryd.ntmps67
   go_wp2_with fail
   go_ret
   exact ⟨rfl, grown_of_below (Below.refl _ _) _, n, f, HM.out, HT.out, HN.out, fun _ _ => rfl⟩
  ·rename_i hf
   have e1 := full_eq L.length S H10.out
   rw [decide_eq_false hf] at e1
   have HF := Aside0.mk hf
   have HS1 := Aside0.mk h
   have HKS := Aside0.mk (show fits64 (S : Int) from by
    have h1 := HS.out
    have h2 : 2 ^ L.length ≤ 2 ^ 10 := Nat.pow_le_pow_right (by decide) H10.out
    unfold fits64
    omega)
   clear hf h
   cases hfx : f (S : Int) with
   | some v =>
    have hv : v = r := by
     obtain ⟨k2, S2, h1, h2⟩ := HT.out _ _ hfx
     obtain rfl := Int.ofNat_inj.1 h1
     exact ordF_same h2 H0.out
    subst hv
    have HFX := Aside0.mk hfx
    clear hfx x2 x3 x4
    go_enter Tryd.func67, Tryd.ntmps67
    go_wp2_with (at_lookup; refine wpList_hit rfl _ rfl _ _ 86 rfl Tryd.underlying86 b n f HM.out (S : Int) rfl rfl HKS.out v HFX.out ?_)
    go_ret
    exact ⟨rfl, grown_of_below (Below.refl _ _) _, n, f, HM.out, HT.out, HN.out, fun _ _ => rfl⟩
   | none =>
    have HFX := Aside0.mk hfx
    have hu := Tryd.underlying46
    have HV := Aside0.mk (show impl_tray_emptied.f tw th l = some (tw, th, emptyC l) from if_pos HL.out)
    have HEL := Aside0.mk (show (emptyC l).length = l.length from by unfold emptyC; rw [List.length_map])
    clear hfx
    go_enter Tryd.func67, Tryd.ntmps67
    go_wp2_with (first
     | (at_lookup; refine wpList_miss rfl _ rfl _ _ 86 rfl Tryd.underlying86 b n f HM.out (S : Int) rfl rfl HKS.out HFX.out ?_; clear x1 e1))
    have hvr := Kd.V_reads' HO.out.cells
    refine (impl_tray_emptied.calls tw th A c l tw th (emptyC l) _ hvr.2.2 hvr.2.1 HV.out).mono ?_
    rintro e w1 ⟨v1, rfl, ho, hb1⟩
    obtain ⟨gb, c1, rfl, hgb, hlb, cl, hcl⟩ := Kd.R_form ho (by rw [HEL.out]; exact HL.out.1)
    rw [HEL.out] at ho ⊢
    have HB1 := Aside0.mk hb1
    have HR1 := Aside0.mk ho
    have HGB := Aside0.mk hgb
    have HMB := Aside0.mk HM.out.lt
    clear hvr ho hb1 hgb hlb hcl x0 x2 x3 x4 HV
    go_wp2_with (first
     | ((with_reducible refine gate_dst (N := 9) rfl ?_); refine box_event ?hg (N := 9) ?hd (cs := #[.int .i64 0, .int .i64 0, .slice none 0 0]) (t := 46) ?hr ?_; (case hd => rfl); (case hg => rfl); (case hr => first | (go_simp; done) | (go_simp; rfl)); intro gn hg w2 hbox hb; (have HGN := Aside0.mk (show W.heap.size ≤ gn by rw [hg]; exact HB1.out.size)); (have HB2 := Aside0.mk (below_then HB1.out HB1.out.size hb)); (have HR2 := Aside0.mk (Kd.R_below HR1.out hb)); (have HU := Aside0.mk hbox); (have y0 := (blk_cell HU.out 0).trans rfl); (have y1 := (blk_cell HU.out 1).trans rfl); (have y2 := (blk_cell HU.out 2).trans rfl); (have f0 := blk_frozen HU.out 0); (have f1 := blk_frozen HU.out 1); (have f2 := blk_frozen HU.out 2); clear hbox hb hg HB1 HR1)
     | ((with_reducible refine gate_store (t := 46) (p := 9) rfl ?_); refine store_event (t := 46) (p := 9) (v := ?vo) (w1 := (((w2.setCell ⟨gn, 0, none⟩ (.int .i64 tw)).setCell ⟨gn, 1, none⟩ (.int .i64 th)).setCell ⟨gn, 2, none⟩ (.slice (some ⟨gb, 0, none⟩) l.length c1))) ?hg ?ho ?hn ?hr ?_; (case ho => rfl); (case hg => rfl); (case hn => rfl); (case hr => first | (go_simp; done) | (go_simp; rfl)); intro w3 hw; (have HB3 := Aside0.mk (show Below W.heap.size W w3 by rw [hw]; exact below_set (below_set (below_set HB2.out HGN.out) HGN.out) HGN.out)); (have HE := Aside0.mk (show NW W w3 gn gb tw th l.length c1 (emptyC l) b from ⟨grown_of_below HB3.out _, (by rw [hw]; refine blk_put (cs := #[.int .i64 tw, .int .i64 th, .slice none 0 0]) ?_ 2 _ rfl; refine blk_put (cs := #[.int .i64 tw, .int .i64 0, .slice none 0 0]) ?_ 1 _ rfl; refine blk_put (cs := #[.int .i64 0, .int .i64 0, .slice none 0 0]) ?_ 0 _ rfl; exact HU.out), (by rw [hw]; exact Kd.R_mono (Kd.R_far (p := ⟨gn, 2, none⟩) (Kd.R_far (p := ⟨gn, 1, none⟩) (Kd.R_far (p := ⟨gn, 0, none⟩) (Kd.R_types HR2.out HU.out (by decide)) (fun _ hk => hk.2) (.int .i64 tw)) (fun _ hk => hk.2) (.int .i64 th)) (fun _ hk => hk.2) (.slice (some ⟨gb, 0, none⟩) l.length c1)) (fun _ _ => trivial)), HGN.out, HGB.out, HMB.out, HEL.out⟩)); clear hw HU HR2 HB2 y0 y1 y2 f0 f1 f2; (have x0 := (blk_cell (HO.out.below HB3.out).lst 0).trans rfl)))
    clear x0
    go_loopg [33] L.length (fun gg v33 wr => ∃ t : Nat, v33 = .int .i64 t ∧ Aside0 (t ≤ L.length ∧ L.length - t ≤ gg) ∧ Aside0 (Below W.heap.size W wr) ∧ Aside0 (NW W wr gn gb tw th l.length c1 (putC (emptyC l) L S t) b))
    case atStart => exact ⟨0, rfl, ⟨Nat.zero_le _, by omega⟩, HB3, HE⟩
    case round =>
     clear HB3 HE
     obtain ⟨t, rfl, HA, HB, HE⟩ := hrel
     have y0 := (blk_cell HE.out.out 0).trans rfl
     have y1 := (blk_cell HE.out.out 1).trans rfl
     have y2 := (blk_cell HE.out.out 2).trans rfl
     have hOr := HO.out.below HB.out
     by_cases hlt : t < L.length
     ·have e1 : decide ((t : Int) < (L.length : Int)) = true := decide_eq_true (by omega)
      have p1 : (0 ≤ (t : Int)) = True := eq_true (by omega)
      have p2 : ((t : Int) < (L.length : Int)) = True := eq_true (by omega)
      obtain ⟨ad, ea, hx⟩ := Kd.at_int (Kd.V_reads' hOr.list).2.2 (t : Int) (by omega) (by omega)
      subst ea
      rw [Int.toNat_natCast] at hx
      clear hOr
      have hS := HS.out
      have h10 := H10.out
      have hS10 : S < 1024 := Nat.lt_of_lt_of_le hS (Nat.pow_le_pow_right (by decide) h10)
      have hb := bit_is1 S t hS10 (by omega)
      have hrl : 0 ≤ rd L (t : Int) ∧ rd L (t : Int) < (l.length : Int) := by
       have h1 := HIN.out
       unfold inB at h1
       rw [Bool.and_eq_true, List.all_eq_true] at h1
       have h2 := h1.2 L[t] (List.getElem_mem hlt)
       rw [rd_nat L t hlt]
       exact of_decide_eq_true h2
      have hpt : putC (emptyC l) L S (t + 1) = if S.testBit t = true then (putC (emptyC l) L S t).set (rd L (t : Int)).toNat 111 else putC (emptyC l) L S t := rfl
      have HPT := Aside0.mk hpt
      have HA2 := Aside0.mk (show t < L.length ∧ L.length ≤ 10 from ⟨hlt, h10⟩)
      clear hpt hS h10 hS10 hlt
      cases hbt : S.testBit t with
      | true =>
       rw [hbt] at hb
       have HPT2 := Aside0.mk (show putC (emptyC l) L S (t + 1) = (putC (emptyC l) L S t).set (rd L (t : Int)).toNat 111 from HPT.out.trans (if_pos hbt))
       clear hbt HPT
       have p3 : (0 ≤ rd L (t : Int)) = True := eq_true hrl.1
       have p4 : (rd L (t : Int) < (l.length : Int)) = True := eq_true hrl.2
       obtain ⟨z0, z1⟩ := Kd.R_celln 0 HE.out.row (rd L (t : Int)) hrl.1 hrl.2
       clear hrl
       generalize rd L (t : Int) = a at hx z0 z1 p3 p4 HPT2
       go_wp2_with fail
       go_roundg (L.length - (t + 1))
       case measure => have h1 := HA2.out; have h2 := HA.out; omega
       case rel => exact ⟨t + 1, by first | rfl | rw [wrap1o t (by have := HA2.out; omega)] | simp, ⟨by have := HA2.out; omega, Nat.le_refl _⟩, ⟨below_set HB.out HGB.out⟩, ⟨by rw [HPT2.out]; exact HE.out.set a 111⟩⟩
      | false =>
       rw [hbt] at hb
       have HPT2 := Aside0.mk (show putC (emptyC l) L S (t + 1) = putC (emptyC l) L S t from HPT.out.trans (if_neg (by rw [hbt]; exact Bool.false_ne_true)))
       clear hbt HPT hrl
       go_wp2_with fail
       go_roundg (L.length - (t + 1))
       case measure => have h1 := HA2.out; have h2 := HA.out; omega
       case rel => exact ⟨t + 1, by first | rfl | rw [wrap1o t (by have := HA2.out; omega)] | simp, ⟨by have := HA2.out; omega, Nat.le_refl _⟩, HB, ⟨by rw [HPT2.out]; exact HE.out⟩⟩
     ·obtain rfl : t = L.length := by have := HA.out; omega
      have e1 : decide ((L.length : Int) < (L.length : Int)) = false := decide_eq_false (by omega)
      have HM0 := Aside0.mk (HM.out.below HB.out)
      have HQ0 := Aside0.mk (show sumO (addO k tw th (putC (emptyC l) L S L.length)) (ordF k tw th l L) L S (L.length - 0) 0 0 = some r from HS1.out)
      have x0 := (blk_cell hOr.lst 0).trans rfl
      clear hOr hlt HA y0 y1 y2
      go_wp2_with fail
      clear x0 e1
      go_loopg [12, 50] L.length (fun gg v12 v50 wr => ∃ (i : Nat) (a : Int) (m : Nat) (g : Int → Option Int), v12 = .int .i64 a ∧ v50 = .int .i64 i ∧ Aside0 (i ≤ L.length ∧ L.length - i ≤ gg) ∧ Aside0 (sumO (addO k tw th (putC (emptyC l) L S L.length)) (ordF k tw th l L) L S (L.length - i) i a = some r) ∧ Aside0 (NW W wr gn gb tw th l.length c1 (putC (emptyC l) L S L.length) b) ∧ Aside0 (MP wr b m g) ∧ Aside0 (TR tw th l L g ∧ m + mu g ≤ 1024 ∧ ∀ x : Nat, x ≤ S → g (x : Int) = f (x : Int)))
      case atStart => exact ⟨0, 0, n, f, rfl, rfl, ⟨Nat.zero_le _, by omega⟩, HQ0, HE, HM0, ⟨HT.out, HN.out, fun _ _ => rfl⟩⟩
      case round =>
       clear HB HE HM0 HQ0
       obtain ⟨i, a, m, g, rfl, rfl, HA, HQ, HE, HMg, HKg⟩ := hrel
       have y0 := (blk_cell HE.out.out 0).trans rfl
       have y1 := (blk_cell HE.out.out 1).trans rfl
       have y2 := (blk_cell HE.out.out 2).trans rfl
       have hOr := HO.out.turn HM.out.nc HE.out.grown
       have x1 := (blk_cell hOr.kno 0).trans rfl
       have x5 := (blk_cell hOr.cnt 0).trans rfl
       by_cases hlt : i < L.length
       ·have e1 : decide ((i : Int) < (L.length : Int)) = true := decide_eq_true (by omega)
        have p1 : (0 ≤ (i : Int)) = True := eq_true (by omega)
        have p2 : ((i : Int) < (L.length : Int)) = True := eq_true (by omega)
        obtain ⟨ad, ea, hx⟩ := Kd.at_int (Kd.V_reads' hOr.list).2.2 (i : Int) (by omega) (by omega)
        subst ea
        rw [Int.toNat_natCast] at hx
        have hS := HS.out
        have h10 := H10.out
        have hS10 : S < 1024 := Nat.lt_of_lt_of_le hS (Nat.pow_le_pow_right (by decide) h10)
        have hb := bit_is0 S i hS10 (by omega)
        have HA2 := Aside0.mk (show i < L.length ∧ L.length ≤ 10 from ⟨hlt, h10⟩)
        have HOr := Aside0.mk hOr
        have hq := HQ.out
        rw [show L.length - i = (L.length - (i + 1)) + 1 by omega] at hq
        unfold sumO at hq
        clear hOr x1
        cases hbt : S.testBit i with
        | true =>
         rw [hbt] at hb
         rw [if_pos hbt] at hq
         have HQ2 := Aside0.mk hq
         clear hq hS h10 hS10 hlt hbt HQ
         go_wp2_with fail
         go_roundg (L.length - (i + 1))
         case measure => have h1 := HA2.out; have h2 := HA.out; omega
         case rel => exact ⟨i + 1, a, m, g, rfl, by first | rfl | rw [wrap1o i (by have := HA2.out; omega)] | simp, ⟨by have := HA2.out; omega, Nat.le_refl _⟩, HQ2, HE, HMg, HKg⟩
        | false =>
         rw [hbt] at hb
         rw [if_neg (by rw [hbt]; exact Bool.false_ne_true)] at hq
         obtain ⟨T, hT⟩ : ∃ T : Nat, T = S + 2 ^ i := ⟨_, rfl⟩
         have hbp := bit_put S i hS10 (by omega) hbt
         rw [← hT] at hbp hq
         have hbq : bits .or .i64 (S : Int) (IntKind.i64.wrap (2 ^ min i 64)) = (T : Int) := by rw [i64_w]; exact hbp
         have HTS := Aside0.mk (show S < T from by have := Nat.two_pow_pos i; omega)
         have eg : ∀ args w, (callFunc 67 args).run Tryd.prog w = .ok (.enter 67 args) w := enters_of Tryd.func67 (by kernel_rfl) rfl
         clear hS h10 hS10 hlt hbt hT HQ
         by_cases h00 : S = 0
         ·rw [if_pos h00] at hq
          obtain ⟨cv, hcv, hq⟩ := Option.bind_eq_some_iff.1 hq
          have hcall := ih T cv m g _ HOr.out HMg.out HKg.out.1 HKg.out.2.1 hcv
          have hz : ((S : Int) == 0) = true := by rw [h00]; rfl
          have HQ2 := Aside0.mk hq
          have hcv0 := hcv
          clear hq hcv h00
          have HCV := Aside0.mk hcv0
          clear hcv0 hcall
          go_wp2_with fail
          go_region_with (refine (ih T cv m g _ (HOr.out.below (below_drew (Below.refl _ _))) (HMg.out.below (below_drew (Below.refl _ _))) HKg.out.1 HKg.out.2.1 HCV.out).mono ?_; rintro e w4 ⟨rfl, hend⟩)
          obtain ⟨hg, n', f', hM', hT', hn', hkeep⟩ := hend
          have HE4 := Aside0.mk ((HE.out.step (below_drew (Below.refl _ _))).turn hg)
          have HM4 := Aside0.mk hM'
          have HK4 := Aside0.mk (show TR tw th l L f' ∧ n' + mu f' ≤ 1024 ∧ ∀ x : Nat, x ≤ S → f' (x : Int) = f (x : Int) from ⟨hT', hn', fun x hx => (hkeep x (Nat.lt_of_le_of_lt hx HTS.out)).trans (HKg.out.2.2 x hx)⟩)
          clear hg hM' hT' hn' hkeep
          go_wp2_with fail
          go_roundg (L.length - (i + 1))
          case measure => have h1 := HA2.out; have h2 := HA.out; omega
          case rel => exact ⟨i + 1, wrap64 (a + cv), n', f', by first | rfl | simp only [i64_w], by first | rfl | rw [wrap1o i (by have := HA2.out; omega)] | simp, ⟨by have := HA2.out; omega, Nat.le_refl _⟩, HQ2, HE4, HM4, HK4⟩
         ·rw [if_neg h00] at hq
          obtain ⟨bb, hbb, hq⟩ := Option.bind_eq_some_iff.1 hq
          unfold addO at hbb
          obtain ⟨s, hs, hbb⟩ := Option.bind_eq_some_iff.1 hbb
          have hz : ((S : Int) == 0) = false := beq_false_of_ne (by omega)
          have hrow := Kd.R_reads' HE.out.row
          have hln : (putC (emptyC l) L S L.length).length = l.length := hrow.1.symm
          have hc := impl_tray_added.calls k tw th (some ⟨gb, 0, none⟩) c1 _ (rd L (i : Int)) s wr hrow.2.2 (by rw [hln]; exact hrow.2.1) hs
          rw [hln] at hc
          have HC0 := Aside0.mk hc
          have hbb := Option.some.inj hbb
          clear hc hrow hln hs h00
          cases bb with
          | true =>
           rw [if_pos rfl] at hq
           obtain ⟨cv, hcv, hq⟩ := Option.bind_eq_some_iff.1 hq
           have hse : s.toList.isEmpty = false := by
            cases hsl : s.toList with
            | nil => rw [hsl] at hbb; simp at hbb
            | cons _ _ => rfl
           have HQ2 := Aside0.mk hq
           have HCV := Aside0.mk hcv
           clear hq hcv hbb
           go_wp2_with (go_at_call 69; refine HC0.out.mono ?_; rintro e w2 ⟨rfl, hb2⟩; (have HE2 := Aside0.mk (HE.out.step hb2)); (have HO2 := Aside0.mk (HOr.out.below hb2)); (have HM2 := Aside0.mk (HMg.out.below hb2)); clear hb2 y0 y1 y2 hx x5; (have x5 := (blk_cell HO2.out.cnt 0).trans rfl))
           go_region_with (refine (ih T cv m g _ (HO2.out.below (below_drew (Below.refl _ _))) (HM2.out.below (below_drew (Below.refl _ _))) HKg.out.1 HKg.out.2.1 HCV.out).mono ?_; rintro e w4 ⟨rfl, hend⟩)
           obtain ⟨hg, n', f', hM', hT', hn', hkeep⟩ := hend
           have HE4 := Aside0.mk ((HE2.out.step (below_drew (Below.refl _ _))).turn hg)
           have HM4 := Aside0.mk hM'
           have HK4 := Aside0.mk (show TR tw th l L f' ∧ n' + mu f' ≤ 1024 ∧ ∀ x : Nat, x ≤ S → f' (x : Int) = f (x : Int) from ⟨hT', hn', fun x hx => (hkeep x (Nat.lt_of_le_of_lt hx HTS.out)).trans (HKg.out.2.2 x hx)⟩)
           clear hg hM' hT' hn' hkeep
           go_wp2_with fail
           go_roundg (L.length - (i + 1))
           case measure => have h1 := HA2.out; have h2 := HA.out; omega
           case rel => exact ⟨i + 1, wrap64 (a + cv), n', f', by first | rfl | simp only [i64_w], by first | rfl | rw [wrap1o i (by have := HA2.out; omega)] | simp, ⟨by have := HA2.out; omega, Nat.le_refl _⟩, HQ2, HE4, HM4, HK4⟩
          | false =>
           rw [if_neg Bool.false_ne_true] at hq
           have hse : s.toList.isEmpty = true := by
            cases hsl : s.toList with
            | nil => rfl
            | cons _ _ => rw [hsl] at hbb; simp at hbb
           have HQ2 := Aside0.mk hq
           clear hq hbb
           go_wp2_with (go_at_call 69; refine HC0.out.mono ?_; rintro e w2 ⟨rfl, hb2⟩; (have HE2 := Aside0.mk (HE.out.step hb2)); (have HM2 := Aside0.mk (HMg.out.below hb2)); clear hb2 y0 y1 y2 hx x5)
           go_roundg (L.length - (i + 1))
           case measure => have h1 := HA2.out; have h2 := HA.out; omega
           case rel => exact ⟨i + 1, a, m, g, rfl, by first | rfl | rw [wrap1o i (by have := HA2.out; omega)] | simp, ⟨by have := HA2.out; omega, Nat.le_refl _⟩, HQ2, HE2, HM2, HKg⟩
       ·obtain rfl : i = L.length := by have := HA.out; omega
        have e1 : decide ((L.length : Int) < (L.length : Int)) = false := decide_eq_false (by omega)
        have hq := HQ.out
        rw [Nat.sub_self] at hq
        unfold sumO at hq
        obtain rfl := Option.some.inj hq
        have hfit : fits64 a := sumO_fits L.length 0 0 a (by unfold fits64; omega) HS1.out
        have HFIT := Aside0.mk hfit
        have hS10 : S < 1024 := Nat.lt_of_lt_of_le HS.out (Nat.pow_le_pow_right (by decide) H10.out)
        have hgS : g (S : Int) = none := (HKg.out.2.2 S (Nat.le_refl _)).trans HFX.out
        have hmu := mu_upd g S a hS10 hgS
        have HMU := Aside0.mk (show m + 1 + mu (upd g (S : Int) a) ≤ 1024 from by have := HKg.out.2.1; omega)
        have HMS := Aside0.mk (show m < 1000000 from by have := HKg.out.2.1; omega)
        clear hq hfit hS10 hgS hmu hlt y0 y1 y2 x5 hOr HQ
        go_wp2_with (at_mapUpdate; refine wpList_putW rfl _ rfl _ _ _ 86 rfl Tryd.underlying86 b m g HMg.out HMS.out (S : Int) a rfl rfl rfl HKS.out HFIT.out ?_; intro w5 hm5 hg5; (have HM5 := Aside0.mk hm5); (have HG5 := Aside0.mk (HE.out.grown.trans hg5)); clear hm5 hg5 x1)
        go_ret
        refine ⟨rfl, HG5.out, m + 1, upd g (S : Int) a, HM5.out, fun x cc hx => ?_, HMU.out, fun x hx => ?_⟩
        ·unfold upd at hx
         by_cases e : x = (S : Int)
         ·rw [if_pos e] at hx
          exact ⟨k + 1, S, e, by rw [← Option.some.inj hx]; exact H0.out⟩
         ·rw [if_neg e] at hx
          exact HKg.out.1 x cc hx
        ·unfold upd
         rw [if_neg (by omega)]
         exact HKg.out.2.2 x (Nat.le_of_lt hx)
end
end Go.Proofs.YtmefnfhghfemgaaDoor.Q
end
section
namespace Go.Proofs.YtmefnfhghfemgaaDoor.Q
set_option linter.unusedSectionVars false
set_option linter.unusedSimpArgs false
set_option linter.unusedVariables false
open Go.RowKit Go.Proofs.YtmefnfhghfemgaaDoorW.PrintWords Go.Proofs.YtmefnfhghfemgaaDoorW.PrintLast Go.Proofs.YtmefnfhghfemgaaDoorW.PrintMore
theorem V_lt {α : Type} {d : Kd α} {e base : Nat} {ok : Nat → Prop} {W : World} {v : Value} {xs : List α} (h : Kd.V d e W base ok v xs) : Kd.V d e W 0 (fun k => k < W.heap.size) v xs := Kd.V_map h fun _ hf => Kd.F_mono (Kd.F_bound hf) (fun _ hk => hk.2)
structure OS (w W : World) (b go : Nat) (tw th : Int) (A : Option Addr) (c : Nat) (l : List Int) (AL : Option Addr) (cL : Nat) (L : List Int) : Prop where
 below : Below w.heap.size w W
 own : W.heap[go]? = some (.cells #[.int .i64 tw, .int .i64 th, .slice A l.length c] 46 (0, 0))
 cells : Kd.V (Kd.int .u8) 5 W 0 (fun k => k < b) (.slice A l.length c) l
 list : Kd.V (Kd.int .i64) 3 W 0 (fun k => k < b) (.slice AL L.length cL) L
 map : MP W b 0 (fun _ => none)
 lo : w.heap.size ≤ b
 lt : go < b
section
variable {w W W1 : World} {b go : Nat} {tw th : Int} {A AL : Option Addr} {c cL : Nat} {l L : List Int}
theorem OS.step (h : OS w W b go tw th A c l AL cL L) (hb : Below W.heap.size W W1) : OS w W1 b go tw th A c l AL cL L :=
 ⟨below_then h.below h.below.size hb, blk_below h.own hb, Kd.V_below h.cells hb, Kd.V_below h.list hb, h.map.below hb, h.lo, h.lt⟩
theorem OS.set (h : OS w W b go tw th A c l AL cL L) {g : Nat} (hg : b < g) (i : Nat) (v : Value) : OS w (W.setCell ⟨g, i, none⟩ v) b go tw th A c l AL cL L := by
 have h1 := h.lt
 have h2 := h.lo
 exact ⟨below_set h.below (by omega), blk_far h.own (p := ⟨g, i, none⟩) (by show go ≠ g; omega) _, Kd.V_far h.cells (p := ⟨g, i, none⟩) (fun k hk => by show k ≠ g; omega) v, Kd.V_far h.list (p := ⟨g, i, none⟩) (fun k hk => by show k ≠ g; omega) v, h.map.set (by omega) i v, h.lo, h.lt⟩
end
set_option maxHeartbeats 16000000 in
set_option maxRecDepth 100000 in
theorem impl_orders.calls (k : Nat) (a0 : ByteArray) (gw gh : Int) (gc L : List Int) (w : World) (hG : GoodW w) (hr : impl_read.f a0 = some (gw, gh, gc)) (hi : impl_tray_indices_isBall.f k gw gh gc () = some L) :
  Calls Tryd.prog 32 #[.string a0] w fun e w' => ∃ (go gl gq gn b : Nat) (A : Option Addr) (c : Nat) (AL : Option Addr) (cL : Nat), e = .returned (.tuple #[.func (.func 67) #[] #[.pointer (some ⟨gl, 0, none⟩), .pointer (some ⟨gq, 0, none⟩), .pointer (some ⟨go, 0, none⟩), .pointer (some ⟨gn, 0, none⟩)], .slice AL L.length cL]) ∧ OR w' go gl gq gn b gw gh A c gc AL cL L ∧ MP w' b 0 (fun _ => none) ∧ w.heap.size ≤ b ∧ Below w.heap.size w w' := by
 have HG := Aside0.mk hG
 have HR := Aside0.mk hr
 have HI := Aside0.mk hi
 clear hG hr hi
 have hu := Tryd.underlying46
 have hmf : ∀ (fn : Fn) (first cap : Array Value) (w : World), (Instr.makeFunc fn first cap).run Tryd.prog w = .ok (.func fn first cap) w := fun _ _ _ _ => rfl
 have hsf := fun (a : Addr) (c : Array Value) (w : World) => run_store Tryd.prog w a (.func (.func 67) #[] c) .plain rfl
 go_enter Tryd.func32, Tryd.ntmps32
 go_wp2_with (first
  | (go_at_call 27; refine (impl_read.calls a0 gw gh gc _ HG.out HR.out).mono ?_; rintro e w1 ⟨v1, rfl, ho1, hb1⟩; obtain ⟨A1, c1, rfl⟩ := Kd.V_slice ho1; (have HV1 := Aside0.mk (V_lt ho1)); (have HB1 := Aside0.mk hb1); clear ho1 hb1)
  | ((with_reducible refine gate_dst (N := 4) rfl ?_); refine box_event ?hg (N := 4) ?hd (cs := #[.int .i64 0, .int .i64 0, .slice none 0 0]) (t := 46) ?hr ?_; (case hd => rfl); (case hg => rfl); (case hr => first | (go_simp; done) | (go_simp; rfl)); intro go hg w2 hbox hb; (have HGO := Aside0.mk (show w1.heap.size ≤ go by rw [hg]; exact Nat.le_refl _)); (have HB2 := Aside0.mk (below_then HB1.out HB1.out.size hb)); (have HV2 := Aside0.mk (Kd.V_below HV1.out hb)); (have HU := Aside0.mk hbox); (have y0 := (blk_cell HU.out 0).trans rfl); (have y1 := (blk_cell HU.out 1).trans rfl); (have y2 := (blk_cell HU.out 2).trans rfl); (have f0 := blk_frozen HU.out 0); (have f1 := blk_frozen HU.out 1); (have f2 := blk_frozen HU.out 2); clear hbox hb hg HV1)
  | ((with_reducible refine gate_store (t := 46) (p := 4) rfl ?_); refine store_event (t := 46) (p := 4) (v := ?vo) (w1 := (((w2.setCell ⟨go, 0, none⟩ (.int .i64 gw)).setCell ⟨go, 1, none⟩ (.int .i64 gh)).setCell ⟨go, 2, none⟩ (.slice A1 gc.length c1))) ?hg ?ho ?hn ?hr ?_; (case ho => rfl); (case hg => rfl); (case hn => rfl); (case hr => first | (go_simp; done) | (go_simp; rfl)); intro w3 hw; (have HGW := Aside0.mk (Nat.le_trans HB1.out.size HGO.out)); (have HB3 := Aside0.mk (show Below w.heap.size w w3 by rw [hw]; exact below_set (below_set (below_set HB2.out HGW.out) HGW.out) HGW.out)); (have HX3 := Aside0.mk (show w3.heap[go]? = some (.cells #[.int .i64 gw, .int .i64 gh, .slice A1 gc.length c1] 46 (0, 0)) by rw [hw]; refine blk_put (cs := #[.int .i64 gw, .int .i64 gh, .slice none 0 0]) ?_ 2 _ rfl; refine blk_put (cs := #[.int .i64 gw, .int .i64 0, .slice none 0 0]) ?_ 1 _ rfl; refine blk_put (cs := #[.int .i64 0, .int .i64 0, .slice none 0 0]) ?_ 0 _ rfl; exact HU.out)); (have HV3 := Aside0.mk (show Kd.V (Kd.int .u8) 5 w3 0 (fun k_ => k_ < w1.heap.size) (.slice A1 gc.length c1) gc by rw [hw]; exact Kd.V_far (p := ⟨go, 2, none⟩) (Kd.V_far (p := ⟨go, 1, none⟩) (Kd.V_far (p := ⟨go, 0, none⟩) HV2.out (fun k_ hk => Nat.ne_of_lt (Nat.lt_of_lt_of_le hk HGO.out)) (.int .i64 gw)) (fun k_ hk => Nat.ne_of_lt (Nat.lt_of_lt_of_le hk HGO.out)) (.int .i64 gh)) (fun k_ hk => Nat.ne_of_lt (Nat.lt_of_lt_of_le hk HGO.out)) (.slice A1 gc.length c1))); clear hw HU HV2 HB2 y0 y1 y2 f0 f1 f2; (have y0 := (blk_cell HX3.out 0).trans rfl); (have y1 := (blk_cell HX3.out 1).trans rfl); (have y2 := (blk_cell HX3.out 2).trans rfl))
  | (go_at_call 65; refine (impl_tray_indices_isBall.calls k gw gh A1 c1 gc () L _ (Kd.V_reads' HV3.out).2.2 (Kd.V_reads' HV3.out).2.1 HI.out).mono ?_; rintro e w4 ⟨v4, rfl, ho4, hb4⟩; obtain ⟨A4, c4, rfl⟩ := Kd.R_slice ho4; (have HX4 := Aside0.mk (blk_below HX3.out hb4)); (have HV4 := Aside0.mk (Kd.V_below HV3.out hb4)); (have HS4 := Aside0.mk (Nat.le_trans (blk_lt HX3.out) hb4.size)); (have HB4 := Aside0.mk (below_then HB3.out HB3.out.size hb4)); (have HL4 := Aside0.mk (V_lt (Kd.R_V (base' := 0) ho4))); (have hmm := run_makeMap (P := Tryd.prog) 86 w4); clear ho4 hb4 HX3 HV3 HB3 y0 y1 y2)
  | ((with_reducible refine gate_dst (N := 5) rfl ?_); refine box_event ?hg (N := 5) ?hd (cs := #[.slice none 0 0]) (t := 31) ?hr ?_; (case hd => rfl); (case hg => rfl); (case hr => first | (go_simp; done) | (go_simp; rfl)); intro gl hg w5 hbox hb; (have HE5 := Aside0.mk (show OS w w5 w4.heap.size go gw gh A1 c1 gc A4 c4 L from ⟨below_then (below_alloc HB4.out (.map #[] 0)) (below_alloc HB4.out (.map #[] 0)).size hb, blk_below (blk_alloc HX4.out _) hb, Kd.V_mono (Kd.V_below (Kd.V_below HV4.out (below_alloc (Below.refl _ _) (.map #[] 0))) hb) (fun k_ hk => Nat.lt_of_lt_of_le hk (by have h1 := HS4.out; have h2 := HGO.out; omega)), Kd.V_below (Kd.V_below HL4.out (below_alloc (Below.refl _ _) (.map #[] 0))) hb, (MP.made w4).below hb, HB4.out.size, HS4.out⟩)); (have HGL := Aside0.mk (show w4.heap.size < gl by rw [hg]; exact blk_lt (blk_new w4 (.map #[] 0)))); (have HY5 := Aside0.mk hbox); clear hbox hb hg hmm HX4 HV4 HL4 HB4)
  | ((with_reducible refine gate_dst (N := 6) rfl ?_); refine box_event ?hg (N := 6) ?hd (cs := #[.map none]) (t := 86) ?hr ?_; (case hd => rfl); (case hg => rfl); (case hr => first | (go_simp; done) | (go_simp; rfl)); intro gq hg w6 hbox hb; (have HE6 := Aside0.mk (HE5.out.step hb)); (have HGQ := Aside0.mk (show gl < gq by rw [hg]; exact blk_lt HY5.out)); (have HY6 := Aside0.mk (blk_below HY5.out hb)); (have HZ6 := Aside0.mk hbox); clear hbox hb hg HE5 HY5; (have y0 := (blk_cell HY6.out 0).trans rfl); (have f0 := blk_frozen HY6.out 0); (have HZ7 := Aside0.mk (show (w6.setCell ⟨gl, 0, none⟩ (.slice A4 L.length c4)).heap[gq]? = some (.cells #[.map none] 86 (0, 0)) from blk_far HZ6.out (p := ⟨gl, 0, none⟩) (by show gq ≠ gl; have := HGQ.out; omega) _)); (have y1 := (blk_cell HZ7.out 0).trans rfl); (have f1 := blk_frozen HZ7.out 0))
  | ((with_reducible refine gate_dst (N := 7) rfl ?_); refine box_event ?hg (N := 7) ?hd (cs := #[.nilFunc]) (t := 52) ?hr ?_; (case hd => rfl); (case hg => rfl); (case hr => first | (go_simp; done) | (go_simp; rfl)); intro gn hg w9 hbox hb; (have HE9 := Aside0.mk (((HE6.out.set HGL.out 0 (.slice A4 L.length c4)).set (Nat.lt_trans HGL.out HGQ.out) 0 (.map (some w4.heap.size))).step hb)); (have HY9 := Aside0.mk (blk_below (blk_far (blk_put (cs := #[.slice none 0 0]) HY6.out 0 (.slice A4 L.length c4) rfl) (p := ⟨gq, 0, none⟩) (by show gl ≠ gq; have := HGQ.out; omega) (.map (some w4.heap.size))) hb)); (have HZ9 := Aside0.mk (blk_below (blk_put (cs := #[.map none]) HZ7.out 0 (.map (some w4.heap.size)) rfl) hb)); (have HGN := Aside0.mk (show gq < gn by rw [hg]; exact blk_lt (blk_put (cs := #[.map none]) HZ7.out 0 (.map (some w4.heap.size)) rfl))); (have HN9 := Aside0.mk hbox); clear hbox hb hg y0 f0 y1 f1 HE6 HY6 HZ6 HZ7; (have y0 := (blk_cell HN9.out 0).trans rfl); (have f0 := blk_frozen HN9.out 0)))
 obtain ⟨wf, hwf⟩ : ∃ wf, wf = w9.setCell ⟨gn, 0, none⟩ (.func (.func 67) #[] #[.pointer (some ⟨gl, 0, none⟩), .pointer (some ⟨gq, 0, none⟩), .pointer (some ⟨go, 0, none⟩), .pointer (some ⟨gn, 0, none⟩)]) := ⟨_, rfl⟩
 have hbn : w4.heap.size < gn := Nat.lt_trans HGL.out (Nat.lt_trans HGQ.out HGN.out)
 have HE10 := Aside0.mk (show OS w wf w4.heap.size go gw gh A1 c1 gc A4 c4 L by rw [hwf]; exact HE9.out.set hbn 0 _)
 have HY10 := Aside0.mk (show wf.heap[gl]? = some (.cells #[.slice A4 L.length c4] 31 (0, 0)) by rw [hwf]; exact blk_far HY9.out (p := ⟨gn, 0, none⟩) (by show gl ≠ gn; have := HGQ.out; have := HGN.out; omega) _)
 have HZ10 := Aside0.mk (show wf.heap[gq]? = some (.cells #[.map (some w4.heap.size)] 86 (0, 0)) by rw [hwf]; exact blk_far HZ9.out (p := ⟨gn, 0, none⟩) (by show gq ≠ gn; have := HGN.out; omega) _)
 have HN10 := Aside0.mk (show wf.heap[gn]? = some (.cells #[.func (.func 67) #[] #[.pointer (some ⟨gl, 0, none⟩), .pointer (some ⟨gq, 0, none⟩), .pointer (some ⟨go, 0, none⟩), .pointer (some ⟨gn, 0, none⟩)]] 52 (0, 0)) by rw [hwf]; exact blk_put (cs := #[.nilFunc]) HN9.out 0 _ rfl)
 rw [← hwf]
 clear hwf y0 f0 HE9 HY9 HZ9 HN9
 have x1 := (blk_cell HN10.out 0).trans rfl
 have x2 := (blk_cell HY10.out 0).trans rfl
 go_quiet (fail)
 go_wp2
 go_ret2
 have hor : OR wf go gl gq gn w4.heap.size gw gh A1 c1 gc A4 c4 L := ⟨HE10.out.own, HY10.out, HZ10.out, HN10.out, Kd.V_mono HE10.out.cells (fun k_ hk => Nat.ne_of_lt hk), Kd.V_mono HE10.out.list (fun k_ hk => Nat.ne_of_lt hk)⟩
 exact ⟨go, gl, gq, gn, w4.heap.size, A1, c1, A4, c4, rfl, hor.below (pw_below_drewN (Below.refl _ _) _), HE10.out.map.below (pw_below_drewN (Below.refl _ _) _), HE10.out.lo, pw_below_drewN HE10.out.below _⟩
end Go.Proofs.YtmefnfhghfemgaaDoor.Q
end
section
namespace Go.Proofs.YtmefnfhghfemgaaDoor.Q
set_option linter.unusedSectionVars false
set_option linter.unusedSimpArgs false
set_option linter.unusedVariables false
open Go.RowKit Go.Proofs.YtmefnfhghfemgaaDoorW.PrintWords Go.Proofs.YtmefnfhghfemgaaDoorW.PrintLast Go.Proofs.YtmefnfhghfemgaaDoorW.PrintMore
def impl_CountOrders.f (k : Nat) (a0 : ByteArray) : Option (Int × Bool) :=
 (impl_IsForm.f k a0).bind fun b => if b = true then (impl_read.f a0).bind fun g => (impl_tray_indices_isBall.f k g.1 g.2.1 g.2.2 ()).bind fun L => (ordF k g.1 g.2.1 g.2.2 L 0).bind fun r => some (r, true) else some (0, false)
theorem TR_none (tw th : Int) (l L : List Int) : TR tw th l L fun _ => none := fun x c h => by cases h
theorem below_grown {w W W1 : World} {b : Nat} (h : Below w.heap.size w W) (hg : W.grownBy W1 (some b)) (hb : w.heap.size ≤ b) : Below w.heap.size w W1 := h.grown hg h.size (fun k e => by cases e; exact hb)
set_option maxHeartbeats 16000000 in
set_option maxRecDepth 100000 in
theorem impl_CountOrders.calls (k : Nat) (a0 : ByteArray) (r1 : Int) (r2 : Bool) (w : World) (hG : GoodW w) (h : impl_CountOrders.f k a0 = some (r1, r2)) :
  Calls Tryd.prog 12 #[.string a0] w fun e w' => e = .returned (.tuple #[.int .i64 r1, .bool r2]) ∧ Below w.heap.size w w' := by
 unfold impl_CountOrders.f at h
 obtain ⟨b, hb, h⟩ := Option.bind_eq_some_iff.1 h
 have HG := Aside0.mk hG
 have HT := Aside0.mk hb
 clear hG hb
 cases b with
 | false =>
  rw [if_neg Bool.false_ne_true] at h
  simp only [Option.some.injEq, Prod.mk.injEq] at h
  obtain ⟨rfl, rfl⟩ := h
  go_enter Tryd.func12, Tryd.ntmps12
  go_wp2_with (go_at_call 31; refine (impl_IsForm.calls k a0 false _ HG.out HT.out).mono ?_; rintro e w1 ⟨rfl, hb1⟩; (have HB1 := Aside0.mk hb1); clear hb1)
  go_ret2
  exact ⟨rfl, HB1.out⟩
 | true =>
  rw [if_pos rfl] at h
  obtain ⟨⟨gw, gh, gc⟩, hr, h⟩ := Option.bind_eq_some_iff.1 h
  obtain ⟨L, hL, h⟩ := Option.bind_eq_some_iff.1 h
  obtain ⟨r, ho, h⟩ := Option.bind_eq_some_iff.1 h
  simp only [Option.some.injEq, Prod.mk.injEq] at h
  obtain ⟨rfl, rfl⟩ := h
  have HR := Aside0.mk hr
  have HL := Aside0.mk hL
  have HO := Aside0.mk ho
  clear hr hL ho
  have eg : ∀ args w, (callFunc 67 args).run Tryd.prog w = .ok (.enter 67 args) w := enters_of Tryd.func67 (by kernel_rfl) rfl
  go_enter Tryd.func12, Tryd.ntmps12
  go_wp2_with (first
   | (go_at_call 31; refine (impl_IsForm.calls k a0 true _ HG.out HT.out).mono ?_; rintro e w1 ⟨rfl, hb1⟩; (have HB1 := Aside0.mk hb1); clear hb1)
   | (go_at_call 32; refine (impl_orders.calls k a0 gw gh gc L _ (GoodW.below HG.out HB1.out) HR.out HL.out).mono ?_; rintro e w2 ⟨go, gl, gq, gn, b, A, c, AL, cL, rfl, hor, hmp, hlo, hb2⟩; (have HOR := Aside0.mk hor); (have HMP := Aside0.mk hmp); (have HLO := Aside0.mk (Nat.le_trans HB1.out.size hlo)); (have HB2 := Aside0.mk (below_then HB1.out HB1.out.size hb2)); clear hor hmp hlo hb2))
  have hcall : Calls Tryd.prog 67 #[.int .i64 0, .pointer (some ⟨gl, 0, none⟩), .pointer (some ⟨gq, 0, none⟩), .pointer (some ⟨go, 0, none⟩), .pointer (some ⟨gn, 0, none⟩)] w2 fun e W' => e = .returned (.int .i64 r) ∧ EndO gw gh gc L b 0 (fun _ => none) w2 W' := impl_orders1.calls k 0 r 0 (fun _ => none) w2 HOR.out HMP.out (TR_none _ _ _ _) (by have := mu_none; omega) HO.out
  refine hcall.mono ?_
  rintro e w3 ⟨rfl, hg, _⟩
  have HB3 := Aside0.mk (below_grown HB2.out hg HLO.out)
  clear hg hcall
  go_wp2_with fail
  go_ret2
  exact ⟨rfl, HB3.out⟩
end Go.Proofs.YtmefnfhghfemgaaDoor.Q
end
section
namespace Go.Proofs.YtmefnfhghfemgaaDoor.Q
set_option linter.unusedSectionVars false
set_option linter.unusedSimpArgs false
open Go.RowKit Go.Proofs.YtmefnfhghfemgaaDoorW.PrintWords Go.Proofs.YtmefnfhghfemgaaDoorW.PrintLast Go.Proofs.YtmefnfhghfemgaaDoorW.PrintMore
open Classical
noncomputable def CountOrdersR (s : ByteArray) : Int × Bool := match formOf s with
 | none => (0, false)
 | some (w, h, cs) => (((cntQ w.toNat h.toNat cs 0 : Nat) : Int), true)
theorem implCountOrders_ev (s : ByteArray) (hs : s.size ≤ 1048576) : Ev (fun k => impl_CountOrders.f k s) (CountOrdersR s) := by
 refine Ev.bind (f := fun k (b : Bool) => if b = true then (impl_read.f s).bind fun g => (impl_tray_indices_isBall.f k g.1 g.2.1 g.2.2 ()).bind fun L => (ordF k g.1 g.2.1 g.2.2 L 0).bind fun r => some (r, true) else some (0, false)) (isForm_ev s hs) ?_
 unfold CountOrdersR
 rcases hf : formOf s with _ | t
 ·exact Ev.congr (Ev.const (o := some ((0 : Int), false)) rfl) fun k => if_neg (by decide)
 ·obtain ⟨w, h, cs, rfl, hw1, hw, hh1, hh, hs2, hn, hk, ht⟩ := form_parts hf
  have hread := tray_read ht
  simp only [Int.toNat_natCast]
  have h1 := ordF_ev hw hh hs2 hn hk.2.1.2 (form_open hk) (by rw [hn]; exact Nat.mul_le_mul hw1 hh1) (2 ^ (ballsOf cs).length) 0 (Nat.le_refl _) (Nat.two_pow_pos _)
  refine Ev.congr (g' := fun k => (impl_tray_indices_isBall.f k w h cs ()).bind fun L => (ordF k w h cs L 0).bind fun r => some (r, true)) ?_ fun k => ?_
  ·refine Ev.bind (f := fun k L => (ordF k w h cs L 0).bind fun r => some (r, true)) (indices_ev cs (by rw [hn]; exact hs2) w h) ?_
   exact Ev.bind (f := fun _ (r : Int) => some (r, true)) h1 (Ev.const rfl)
  ·show (if true = true then _ else _) = _
   rw [if_pos rfl, hread, Option.bind_some]
end Go.Proofs.YtmefnfhghfemgaaDoor.Q
end
section
namespace Go.Proofs.YtmefnfhghfemgaaDoor.Q
open Go.RowKit Go.Proofs.YtmefnfhghfemgaaDoorW.PrintWords Go.Proofs.YtmefnfhghfemgaaDoorW.PrintLast Go.Proofs.YtmefnfhghfemgaaDoorW.PrintMore
attribute [local go_sem] max2_int min2_int max_two min_two max_three min_three max_four min_four
set_option linter.unusedVariables false
set_option linter.unusedSimpArgs false
def impl_CanBuild.f (k : Nat) (a0 : ByteArray) : Option (Bool × Bool) := (impl_CountOrders.f k a0).bind fun bt101 => (some (decide (bt101.1 > 0), bt101.2))
set_option maxHeartbeats 8000000 in
set_option maxRecDepth 100000 in
theorem impl_CanBuild.calls (k : Nat) (a0 : ByteArray) (r1 : Bool) (r2 : Bool) (w : World) (hG : GoodW w) (h : impl_CanBuild.f k a0 = some (r1, r2)) :
  Calls Tryd.prog 14 #[.string a0] w fun e w' => e = .returned (.tuple #[.bool r1, .bool r2]) ∧ Below w.heap.size w w' := by
 have HG := Aside0.mk hG
 clear hG
 have HB := Aside0.mk (Below.refl w.heap.size w)
 have H : ((impl_CountOrders.f k a0).bind fun bt101 => (some (decide (bt101.1 > 0), bt101.2))) = some (r1, r2) := h
 clear h
 replace H := Option.bind_eq_some_iff.mp H
 obtain ⟨⟨t101, t102⟩, A20, H⟩ := H
 replace H : (some (decide (t101 > 0), t102)) = some (r1, r2) := H
 have A2 := Aside0.mk A20
 clear A20
 simp only [Option.some.injEq, Prod.mk.injEq] at H
 obtain ⟨rfl, rfl⟩ := H
 go_enter Tryd.func14, Tryd.ntmps14
 go_wp2_with (first | ((with_reducible refine gate_callee (f := 12) rfl ?_); refine gcall (some 8) Tryd.func12 #[.string a0] rfl ?_; (with_reducible refine (impl_CountOrders.calls k a0 t101 t102 _ ?side1 A2.out).mono ?_); (case side1 => (refine GoodW.below HG.out ?_); exact bel HB); rintro e w3 ⟨rfl, hb⟩; refine ⟨_, rfl, ?_⟩; have n0_ := Aside0.mk (below_step (bel HB) hb); clear HB; have HB := n0_; clear n0_; (try clear hb); (try clear hb2); (try clear hk); (try clear hi)))
 go_ret2
 exact ⟨by first | rfl | (simp [errW_none, errW_some] <;> rfl) | (simp [*, errW_none, errW_some] <;> rfl), bel HB⟩
end Go.Proofs.YtmefnfhghfemgaaDoor.Q
end
section
namespace Go.Proofs.YtmefnfhghfemgaaDoor.Q
set_option linter.unusedSectionVars false
open Go.RowKit Go.Proofs.YtmefnfhghfemgaaDoorW.PrintWords Go.Proofs.YtmefnfhghfemgaaDoorW.PrintLast Go.Proofs.YtmefnfhghfemgaaDoorW.PrintMore
theorem implCanBuild_ev (s : ByteArray) (hs : s.size ≤ 1048576) : Ev (fun k => impl_CanBuild.f k s) (decide ((CountOrdersR s).1 > 0), (CountOrdersR s).2) :=
 Ev.bind (f := fun _ (bt101 : Int × Bool) => some (decide (bt101.1 > 0), bt101.2)) (implCountOrders_ev s hs) (Ev.const rfl)
end Go.Proofs.YtmefnfhghfemgaaDoor.Q
end
section
namespace Go.Proofs.YtmefnfhghfemgaaDoor.Q
open Go.RowKit Go.Shelf Go.Proofs.YtmefnfhghfemgaaDoorW.PrintWords Go.Proofs.YtmefnfhghfemgaaDoorW.PrintLast Go.Proofs.YtmefnfhghfemgaaDoorW.PrintMore
def slices_Clone_int.f (l0 : List Int) : Option (List Int) := if l0.length ≤ 1000000 then some l0 else none
set_option maxHeartbeats 4000000 in
set_option maxRecDepth 100000 in
theorem slices_Clone_int.calls (A0 : Option Addr) (c0 : Nat) (l0 : List Int) (r : List Int) (w : World) (hr0 : Kd.C (Kd.int .i64) w A0 l0.length l0) (hc0 : l0.length ≤ c0) (h : slices_Clone_int.f l0 = some r) :
  Calls Tryd.prog 40 #[.slice A0 l0.length c0] w fun e w' => ∃ v0_ : Value, e = .returned (v0_) ∧ Kd.R (Kd.int .i64) 3 w' w.heap.size (fun _ => True) v0_ r ∧ Below w.heap.size w w' := by
 unfold slices_Clone_int.f at h
 split at h
 case isFalse => cases h
 rename_i hn
 obtain rfl := Option.some.inj h
 have q37 : ∀ (w : World) (a : Option Addr) (n c n' c' : Nat), (binOp .eql 31 (.slice a n c) (.slice none n' c')).run Tryd.prog w = .ok (.bool a.isNone) w := fun w a n c n' c' => Lib.run_eql_slice_nil w _ _ a n c n' c' Tryd.underlying31
 cases A0 with
 | none =>
  have hl : l0 = [] := Classical.byContradiction fun hne => by
   have := List.length_pos_iff.2 hne
   obtain ⟨ad, e, _⟩ := Kd.at_int hr0 0 (by omega) (by omega)
   cases e
  subst hl
  clear hr0 hc0 h
  go_enter Tryd.func40, Tryd.ntmps40
  go_wp2
  go_ret
  exact ⟨_, rfl, Kd.R_nil _ _ _ _ _, Below.refl _ w⟩
 | some ad =>
  have hcell : ∀ j : Nat, j < l0.length → w.cell? (ad.add j) = some (.int .i64 (l0.getD j 0)) := fun j hj => by
   obtain ⟨ad2, e2, h2⟩ := Kd.at_int hr0 (j : Int) (by omega) (by omega)
   cases e2
   rw [Int.toNat_natCast] at h2
   rw [h2]
   unfold rd
   rw [Int.toNat_natCast]
  obtain ⟨i0, hi, hz0, hz1, hz2⟩ := info_parts info3
  have HC := Aside0.mk hcell
  clear hcell hr0 hc0 h
  go_enter Tryd.func40, Tryd.ntmps40
  go_wp2_with (at_builtin; refine wpList_append_own _ rfl _ _ 31 rfl w.heap.size 3 i0 (.int .i64 0) 1 8 Tryd.underlying31 hi hz0 hz1 hz2 rfl (by decide) _ _ _ rfl (World.ownsRow_made w #[] 0 (Nat.le_refl _) (Nat.zero_le _) (by simp)) ad l0.length c0 (l0.map (Value.int .i64)) rfl ?qc1 ?qc2 ?qc3 ?qc4 ?qc5 ?qc6 ?_)
  case qc1 => simp
  case qc2 =>
   intro j u hj
   have hjl : j < l0.length := by
    have := (List.getElem?_eq_some_iff.1 hj).1
    simpa using this
   have h2 := HC.out j hjl
   rw [List.getElem?_map, List.getElem?_eq_getElem hjl] at hj
   obtain rfl := Option.some.inj hj
   rw [List.getD_eq_getElem?_getD, List.getElem?_eq_getElem hjl] at h2
   exact Lib.cell?_alloc_some _ h2
  case qc3 =>
   intro u hu
   obtain ⟨x, _, rfl⟩ := List.mem_map.1 hu
   rfl
  case qc4 => simp [maxLen]; omega
  case qc5 => omega
  case qc6 => simp
  intro v' w1 hown hgrow hnil
  go_wp2
  go_ret
  refine ⟨v', rfl, Kd.R_of_own (enc := Value.int .i64) (show w1.ownsRow w.heap.size 3 1 v' l0.length (l0.map (Value.int .i64)) by simpa using hown) (fun _ _ => trivial), ?_⟩
  exact ((Below.refl _ w).alloc (Nat.le_refl _) _).grown hgrow (by simp) (by intro k hk; simp [Value.ownBlock] at hk; omega)
end Go.Proofs.YtmefnfhghfemgaaDoor.Q
end
section
namespace Go.Proofs.YtmefnfhghfemgaaDoor.Q
set_option linter.unusedSectionVars false
set_option linter.unusedSimpArgs false
set_option linter.unusedVariables false
open Go.RowKit Go.Proofs.YtmefnfhghfemgaaDoorW.PrintWords Go.Proofs.YtmefnfhghfemgaaDoorW.PrintLast Go.Proofs.YtmefnfhghfemgaaDoorW.PrintMore
def inF (bg : List Int → Option Bool) (cnt : Nat → Option Int) (L out : List Int) (S : Nat) : Nat → Nat → Option (List Int × Nat)
 | 0, _ => none
 | m + 1, i => if S.testBit i = true then inF bg cnt L out S m (i + 1) else (bg (out ++ [rd L (i : Int)])).bind fun b => if b = true then (cnt (S + 2 ^ i)).bind fun c => if c > 0 then some (out ++ [rd L (i : Int)], S + 2 ^ i) else inF bg cnt L out S m (i + 1) else inF bg cnt L out S m (i + 1)
def outF (bg : List Int → Option Bool) (cnt : Nat → Option Int) (L : List Int) : Nat → List Int → Nat → Option (List Int)
 | 0, out, _ => some out
 | r + 1, out, S => (inF bg cnt L out S L.length 0).bind fun p => outF bg cnt L r p.1 p.2
def impl_FirstOrder.f (k : Nat) (a0 : ByteArray) : Option (List Int × Bool) :=
 (impl_CanBuild.f k a0).bind fun c => if c.1 = true then (impl_read.f a0).bind fun g => (impl_tray_indices_isBall.f k g.1 g.2.1 g.2.2 ()).bind fun L => if L.length ≤ 10 then (outF (impl_isBegun.f k a0) (ordF k g.1 g.2.1 g.2.2 L) L L.length [] 0).bind fun out => some (out, true) else none else some ([], false)
set_option maxHeartbeats 16000000 in
set_option maxRecDepth 100000 in
theorem impl_FirstOrder.calls (k : Nat) (a0 : ByteArray) (r1 : List Int) (r2 : Bool) (w : World) (hG : GoodW w) (h : impl_FirstOrder.f k a0 = some (r1, r2)) :
  Calls Tryd.prog 18 #[.string a0] w fun e w' => ∃ v0_ : Value, e = .returned (.tuple #[v0_, .bool r2]) ∧ Kd.R (Kd.int .i64) 3 w' w.heap.size (fun _ => True) v0_ r1 ∧ Below w.heap.size w w' := by
 unfold impl_FirstOrder.f at h
 obtain ⟨⟨can, ok⟩, hb, h⟩ := Option.bind_eq_some_iff.1 h
 have HG := Aside0.mk hG
 have HT := Aside0.mk hb
 clear hG hb
 cases can with
 | false =>
  rw [if_neg Bool.false_ne_true] at h
  simp only [Option.some.injEq, Prod.mk.injEq] at h
  obtain ⟨rfl, rfl⟩ := h
  go_enter Tryd.func18, Tryd.ntmps18
  go_wp2_with (go_at_call 14; refine (impl_CanBuild.calls k a0 false ok _ HG.out HT.out).mono ?_; rintro e w1 ⟨rfl, hb1⟩; (have HB1 := Aside0.mk hb1); clear hb1)
  go_ret2
  exact ⟨_, rfl, Kd.R_nil _ _ _ _ _, HB1.out⟩
 | true =>
  rw [if_pos rfl] at h
  obtain ⟨⟨gw, gh, gc⟩, hr, h⟩ := Option.bind_eq_some_iff.1 h
  obtain ⟨L, hL, h⟩ := Option.bind_eq_some_iff.1 h
  split at h
  case isFalse => cases h
  rename_i h10
  obtain ⟨out, ho, h⟩ := Option.bind_eq_some_iff.1 h
  simp only [Option.some.injEq, Prod.mk.injEq] at h
  obtain ⟨rfl, rfl⟩ := h
  have HR := Aside0.mk hr
  have HL := Aside0.mk hL
  have HO := Aside0.mk ho
  have H10 := Aside0.mk h10
  clear hr hL ho h10
  have eg : ∀ args w, (callFunc 67 args).run Tryd.prog w = .ok (.enter 67 args) w := enters_of Tryd.func67 (by kernel_rfl) rfl
  go_enter Tryd.func18, Tryd.ntmps18
  go_wp2_with (first
   | (go_at_call 14; refine (impl_CanBuild.calls k a0 true ok _ HG.out HT.out).mono ?_; rintro e w1 ⟨rfl, hb1⟩; (have HB1 := Aside0.mk hb1); clear hb1)
   | (go_at_call 32; refine (impl_orders.calls k a0 gw gh gc L _ (GoodW.below HG.out HB1.out) HR.out HL.out).mono ?_; rintro e w2 ⟨go, gl, gq, gn, b, A, c, AL, cL, rfl, hor, hmp, hlo, hb2⟩; (have HOR := Aside0.mk hor); (have HMP := Aside0.mk hmp); (have HLO := Aside0.mk (Nat.le_trans HB1.out.size hlo)); (have HB2 := Aside0.mk (below_then HB1.out HB1.out.size hb2)); clear hor hmp hlo hb2)
   | ((with_reducible refine gate_dst (N := 25) rfl ?_); refine R_litG (Kd.int .i64) w2.heap.size 3 ?hg (N := 25) ?hd (xs := ([] : List Int)) (inner := []) (ok := fun _ => True) (okp := fun _ => False) ?hr ?hp (fun _ hk => hk.elim) trivial (Below.refl _ _) (Nat.le_refl _) (by simp) ?_; (case hd => rfl); (case hg => first | rfl | decide | (simp [Region.wanted, yielded]; done) | (go_simp; done)); (case hr => first | (go_simp; done) | (go_simp; rfl)); (case hp => exact (Reps.none _ _)); intro v3 w3 ho3 hb3 _ _; (have HO3 := Aside0.mk (Kd.R_lower ho3 HB2.out.size)); (have HOR3 := Aside0.mk (HOR.out.below hb3)); (have HMP3 := Aside0.mk (HMP.out.below hb3)); (have HB3 := Aside0.mk (below_then HB2.out HB2.out.size hb3)); clear ho3 hb3 HOR HMP HB2))
  have HQ0 := Aside0.mk (show outF (impl_isBegun.f k a0) (ordF k gw gh gc L) L (L.length - ([] : List Int).length) [] 0 = some out from HO.out)
  clear HO
  go_loopg [8, 9] L.length (fun gg v8 v9 wr => ∃ (out1 : List Int) (S m : Nat) (g : Int → Option Int), v9 = .int .i64 (S : Int) ∧ Aside0 (out1.length ≤ L.length ∧ L.length - out1.length ≤ gg ∧ S < 2 ^ L.length) ∧ Aside0 (outF (impl_isBegun.f k a0) (ordF k gw gh gc L) L (L.length - out1.length) out1 S = some out) ∧ Aside0 (Kd.R (Kd.int .i64) 3 wr w.heap.size (fun _ => True) v8 out1) ∧ Aside0 (OR wr go gl gq gn b gw gh A c gc AL cL L) ∧ Aside0 (MP wr b m g) ∧ Aside0 (TR gw gh gc L g ∧ m + mu g ≤ 1024) ∧ Aside0 (Below w.heap.size w wr))
  case atStart => exact ⟨[], 0, 0, fun _ => none, rfl, ⟨Nat.zero_le _, Nat.le_refl _, Nat.two_pow_pos _⟩, HQ0, HO3, HOR3, HMP3, ⟨TR_none _ _ _ _, by have := mu_none; omega⟩, HB3⟩
  case round =>
   clear HQ0 HO3 HOR3 HMP3 HB3 HB1
   obtain ⟨out1, S, m, g, rfl, HA, HQ, HO, HOR, HM, HK, HB⟩ := hrel
   obtain ⟨A8, c8, e8⟩ := Kd.R_slice HO.out
   subst e8
   by_cases hlt : out1.length < L.length
   ·have e1 : decide (out1.length < L.length) = true := decide_eq_true hlt
    have HA1 := Aside0.mk (show L.length - out1.length ≤ gk ∧ out1.length < L.length ∧ S < 2 ^ L.length ∧ L.length ≤ 10 from ⟨HA.out.2.1, hlt, HA.out.2.2, H10.out⟩)
    have HQ1 := Aside0.mk (show (inF (impl_isBegun.f k a0) (ordF k gw gh gc L) L out1 S (L.length - 0) 0).bind (fun p => outF (impl_isBegun.f k a0) (ordF k gw gh gc L) L (L.length - (out1.length + 1)) p.1 p.2) = some out from by have h := HQ.out; rw [show L.length - out1.length = (L.length - (out1.length + 1)) + 1 by omega] at h; exact h)
    clear hlt HA HQ
    go_wp2_with fail
    go_loopg [8, 9, 33] L.length (fun gg v8 v9 v33 wr => ∃ (i m : Nat) (g : Int → Option Int), v8 = .slice A8 out1.length c8 ∧ v9 = .int .i64 (S : Int) ∧ v33 = .int .i64 (i : Int) ∧ Aside0 (i ≤ L.length ∧ L.length - i ≤ gg) ∧ Aside0 ((inF (impl_isBegun.f k a0) (ordF k gw gh gc L) L out1 S (L.length - i) i).bind (fun p => outF (impl_isBegun.f k a0) (ordF k gw gh gc L) L (L.length - (out1.length + 1)) p.1 p.2) = some out) ∧ Aside0 (Kd.R (Kd.int .i64) 3 wr w.heap.size (fun _ => True) (.slice A8 out1.length c8) out1) ∧ Aside0 (OR wr go gl gq gn b gw gh A c gc AL cL L) ∧ Aside0 (MP wr b m g) ∧ Aside0 (TR gw gh gc L g ∧ m + mu g ≤ 1024) ∧ Aside0 (Below w.heap.size w wr))
    case atStart => exact ⟨0, m, g, rfl, rfl, rfl, ⟨Nat.zero_le _, Nat.le_refl _⟩, HQ1, HO, HOR, HM, HK, HB⟩
    case round =>
     clear HQ1 HO HOR HM HK HB e1
     obtain ⟨i, m, g, rfl, rfl, rfl, HI, HQ, HO, HOR, HM, HK, HB⟩ := hrel
     by_cases hlt : i < L.length
     ·have e1 : decide ((i : Int) < (L.length : Int)) = true := decide_eq_true (by omega)
      have p1 : (0 ≤ (i : Int)) = True := eq_true (by omega)
      have p2 : ((i : Int) < (L.length : Int)) = True := eq_true (by omega)
      obtain ⟨ad, ea, hx⟩ := Kd.at_int (Kd.V_reads' HOR.out.list).2.2 (i : Int) (by omega) (by omega)
      subst ea
      rw [Int.toNat_natCast] at hx
      have hS10 : S < 1024 := Nat.lt_of_lt_of_le HA1.out.2.2.1 (Nat.pow_le_pow_right (by decide) HA1.out.2.2.2)
      have hi10 : i ≤ 10 := by have := HA1.out.2.2.2; omega
      have hb := bit_is0 S i hS10 hi10
      have HC := Aside0.mk (show slices_Clone_int.f out1 = some out1 from if_pos (by have := HA1.out; omega))
      have HI1 := Aside0.mk (show L.length - i ≤ gk ∧ i < L.length from ⟨HI.out.2, hlt⟩)
      have hq := HQ.out
      rw [show L.length - i = (L.length - (i + 1)) + 1 by omega, inF] at hq
      have HWR := Aside0.mk HB.out.size
      clear HI hlt HQ
      cases hbt : S.testBit i with
      | true =>
       rw [hbt] at hb
       rw [if_pos hbt] at hq
       have HQ2 := Aside0.mk hq
       clear hq hbt hS10 hi10
       go_wp2_with (first
        | (go_at_call 40; refine (slices_Clone_int.calls A8 c8 out1 out1 _ (Kd.R_reads' HO.out).2.2 (Kd.R_reads' HO.out).2.1 HC.out).mono ?_; rintro e w4 ⟨v4, rfl, ho4, hb4⟩; (have HO4 := Aside0.mk ho4); (have HB4 := Aside0.mk hb4); clear ho4 hb4)
        | ((with_reducible refine gate_builtin (b := .append) (xs := #[.tmp 39, .tmp 41]) rfl ?_); at_builtin; refine Kd.R_append (Kd.int .i64) (w0 := wr) wr.heap.size rfl (.tmp 39) (.tmp 41) 31 3 (.int .i64 0) 8 rfl Tryd.underlying31 info3 rfl (by decide) (by omega) v4 out1 (rd L (i : Int)) [.int .i64 (rd L (i : Int))] (fun _ => True) (fun _ => False) rfl rfl ?aP (fun _ hk => hk.elim) ?aF ?aO ?aB ?aS ?aL ?_; (case aP => exact rfl); (case aB => exact HB4.out); (case aF => exact (fun _ _ => trivial)); (case aO => exact HO4.out); (case aS => exact HB4.out.size); (case aL => have := HA1.out; omega); intro v7 w7 ho7 hb7 hg7 hat7; (have HB7 := Aside0.mk hb7); clear ho7 hb7 hg7 hat7 HO4 HB4 hx))
       go_roundg (L.length - (i + 1))
       case measure => have := HI1.out; omega
       case rel => exact ⟨i + 1, m, g, rfl, rfl, by first | rfl | rw [wrap1o i (by have := HA1.out; have := HI1.out; omega)] | simp, ⟨by have := HI1.out; omega, Nat.le_refl _⟩, HQ2, ⟨Kd.R_below HO.out HB7.out⟩, ⟨HOR.out.below HB7.out⟩, ⟨HM.out.below HB7.out⟩, HK, ⟨below_then HB.out HB.out.size HB7.out⟩⟩
      | false =>
       rw [hbt] at hb
       rw [if_neg (by rw [hbt]; exact Bool.false_ne_true)] at hq
       obtain ⟨T, hT⟩ : ∃ T : Nat, T = S + 2 ^ i := ⟨_, rfl⟩
       have hbp := bit_put S i hS10 hi10 hbt
       have HTL := Aside0.mk (show T < 2 ^ L.length from by rw [hT]; exact PO.put_lt HA1.out.2.2.1 HI1.out.2 hbt)
       rw [← hT] at hbp hq
       have hbq : bits .or .i64 (S : Int) (IntKind.i64.wrap (2 ^ min i 64)) = (T : Int) := by rw [i64_w]; exact hbp
       obtain ⟨p, hp1, hp2⟩ := Option.bind_eq_some_iff.1 hq
       obtain ⟨bb, hbb, hp1⟩ := Option.bind_eq_some_iff.1 hp1
       obtain ⟨nx, hnx⟩ : ∃ nx, out1 ++ [rd L (i : Int)] = nx := ⟨_, rfl⟩
       rw [hnx] at hbb
       have HNX := Aside0.mk hnx
       have HBG := Aside0.mk hbb
       clear hbb hbt hS10 hi10 hT hq hnx
       cases bb with
       | false =>
        rw [if_neg Bool.false_ne_true] at hp1
        have HQ2 := Aside0.mk (show (inF (impl_isBegun.f k a0) (ordF k gw gh gc L) L out1 S (L.length - (i + 1)) (i + 1)).bind (fun p => outF (impl_isBegun.f k a0) (ordF k gw gh gc L) L (L.length - (out1.length + 1)) p.1 p.2) = some out from by rw [hp1, Option.bind_some]; exact hp2)
        clear hp1 hp2
        go_wp2_with (first
        | (go_at_call 40; refine (slices_Clone_int.calls A8 c8 out1 out1 _ (Kd.R_reads' HO.out).2.2 (Kd.R_reads' HO.out).2.1 HC.out).mono ?_; rintro e w4 ⟨v4, rfl, ho4, hb4⟩; (have HO4 := Aside0.mk ho4); (have HB4 := Aside0.mk hb4); clear ho4 hb4)
        | ((with_reducible refine gate_builtin (b := .append) (xs := #[.tmp 39, .tmp 41]) rfl ?_); at_builtin; refine Kd.R_append (Kd.int .i64) (w0 := wr) wr.heap.size rfl (.tmp 39) (.tmp 41) 31 3 (.int .i64 0) 8 rfl Tryd.underlying31 info3 rfl (by decide) (by omega) v4 out1 (rd L (i : Int)) [.int .i64 (rd L (i : Int))] (fun _ => True) (fun _ => False) rfl rfl ?aP (fun _ hk => hk.elim) ?aF ?aO ?aB ?aS ?aL ?_; (case aP => exact rfl); (case aB => exact HB4.out); (case aF => exact (fun _ _ => trivial)); (case aO => exact HO4.out); (case aS => exact HB4.out.size); (case aL => have := HA1.out; omega); intro v7 w7 ho7 hb7 hg7 hat7; (rw [HNX.out] at ho7); obtain ⟨A7, c7, rfl⟩ := Kd.R_slice ho7; (have HO7 := Aside0.mk ho7); (have HB7 := Aside0.mk hb7); clear ho7 hb7 hg7 hat7 HO4 HB4 hx)
        | (go_at_call 41; refine (impl_isBegun.calls k a0 A7 c7 nx false _ (GoodW.below HG.out (below_then HB.out HB.out.size HB7.out)) (Kd.R_reads' HO7.out).2.2 (Kd.R_reads' HO7.out).2.1 HBG.out).mono ?_; rintro e w8 ⟨rfl, hb8⟩; (have HB8 := Aside0.mk (below_then HB7.out HB7.out.size hb8)); clear hb8))
        go_roundg (L.length - (i + 1))
        case measure => have := HI1.out; omega
        case rel => exact ⟨i + 1, m, g, rfl, rfl, by first | rfl | rw [wrap1o i (by have := HA1.out; have := HI1.out; omega)] | simp, ⟨by have := HI1.out; omega, Nat.le_refl _⟩, HQ2, ⟨Kd.R_below HO.out HB8.out⟩, ⟨HOR.out.below HB8.out⟩, ⟨HM.out.below HB8.out⟩, HK, ⟨below_then HB.out HB.out.size HB8.out⟩⟩
       | true =>
        rw [if_pos rfl] at hp1
        obtain ⟨cv, hcv, hp1⟩ := Option.bind_eq_some_iff.1 hp1
        have HCV := Aside0.mk hcv
        have HP1 := Aside0.mk hp1
        have HP2 := Aside0.mk hp2
        clear hcv hp1 hp2
        go_wp2_with (first
        | (go_at_call 40; refine (slices_Clone_int.calls A8 c8 out1 out1 _ (Kd.R_reads' HO.out).2.2 (Kd.R_reads' HO.out).2.1 HC.out).mono ?_; rintro e w4 ⟨v4, rfl, ho4, hb4⟩; (have HO4 := Aside0.mk ho4); (have HB4 := Aside0.mk hb4); clear ho4 hb4)
        | ((with_reducible refine gate_builtin (b := .append) (xs := #[.tmp 39, .tmp 41]) rfl ?_); at_builtin; refine Kd.R_append (Kd.int .i64) (w0 := wr) wr.heap.size rfl (.tmp 39) (.tmp 41) 31 3 (.int .i64 0) 8 rfl Tryd.underlying31 info3 rfl (by decide) (by omega) v4 out1 (rd L (i : Int)) [.int .i64 (rd L (i : Int))] (fun _ => True) (fun _ => False) rfl rfl ?aP (fun _ hk => hk.elim) ?aF ?aO ?aB ?aS ?aL ?_; (case aP => exact rfl); (case aB => exact HB4.out); (case aF => exact (fun _ _ => trivial)); (case aO => exact HO4.out); (case aS => exact HB4.out.size); (case aL => have := HA1.out; omega); intro v7 w7 ho7 hb7 hg7 hat7; (rw [HNX.out] at ho7); obtain ⟨A7, c7, rfl⟩ := Kd.R_slice ho7; (have HO7 := Aside0.mk ho7); (have HB7 := Aside0.mk hb7); clear ho7 hb7 hg7 hat7 HO4 HB4 hx)
        | (go_at_call 41; refine (impl_isBegun.calls k a0 A7 c7 nx true _ (GoodW.below HG.out (below_then HB.out HB.out.size HB7.out)) (Kd.R_reads' HO7.out).2.2 (Kd.R_reads' HO7.out).2.1 HBG.out).mono ?_; rintro e w8 ⟨rfl, hb8⟩; (have HB8 := Aside0.mk (below_then HB7.out HB7.out.size hb8)); (have HO8 := Aside0.mk (Kd.R_below HO7.out hb8)); clear hb8 HO7 HB7))
        have hcall := impl_orders1.calls k T cv m g w8 (HOR.out.below HB8.out) (HM.out.below HB8.out) HK.out.1 HK.out.2 HCV.out
        refine hcall.mono ?_
        rintro e w9 ⟨rfl, hend⟩
        obtain ⟨hg, m', g', hM', hT', hn', _⟩ := hend
        have hnc := (HM.out.below HB8.out).nc
        have HB9 := Aside0.mk (below_grown (below_then HB.out HB.out.size HB8.out) hg HLO.out)
        have HOR9 := Aside0.mk ((HOR.out.below HB8.out).turn hnc hg)
        have HM9 := Aside0.mk hM'
        have HK9 := Aside0.mk (show TR gw gh gc L g' ∧ m' + mu g' ≤ 1024 from ⟨hT', hn'⟩)
        have HO9 := Aside0.mk (Kd.R_lower (R_turn HO8.out hg hnc) HWR.out)
        have HOo9 := Aside0.mk (R_turn (Kd.R_below HO.out HB8.out) hg hnc)
        clear hcall hg hM' hT' hn' hnc HO8 HB8 HO HOR HM HK HB
        by_cases hc : cv > 0
        ·have q1 : decide (cv > 0) = true := decide_eq_true hc
         have hp1 := HP1.out
         rw [if_pos hc] at hp1
         obtain rfl := Option.some.inj hp1
         have HQ2 := Aside0.mk (show outF (impl_isBegun.f k a0) (ordF k gw gh gc L) L (L.length - nx.length) nx T = some out from by
          have h := HP2.out
          rw [HNX.out] at h
          have hl : nx.length = out1.length + 1 := by rw [← HNX.out]; simp
          rw [hl]
          exact h)
         have HNL := Aside0.mk (show nx.length = out1.length + 1 from by rw [← HNX.out]; simp)
         clear hp1 HP1 HP2 hc
         go_wp2_with fail
         go_quiet (fail)
         go_wp2_with fail
         go_roundg (L.length - nx.length)
         case measure => have h1 := HA1.out; have h2 := HNL.out; omega
         case rel => exact ⟨nx, T, m', g', rfl, ⟨by have h1 := HA1.out; have h2 := HNL.out; omega, Nat.le_refl _, HTL.out⟩, HQ2, ⟨Kd.R_below HO9.out (pw_below_drewN (Below.refl _ _) _)⟩, ⟨HOR9.out.below (pw_below_drewN (Below.refl _ _) _)⟩, ⟨HM9.out.below (pw_below_drewN (Below.refl _ _) _)⟩, HK9, ⟨pw_below_drewN HB9.out _⟩⟩
        ·have q1 : decide (cv > 0) = false := decide_eq_false hc
         have hp1 := HP1.out
         rw [if_neg hc] at hp1
         have HQ2 := Aside0.mk (show (inF (impl_isBegun.f k a0) (ordF k gw gh gc L) L out1 S (L.length - (i + 1)) (i + 1)).bind (fun p => outF (impl_isBegun.f k a0) (ordF k gw gh gc L) L (L.length - (out1.length + 1)) p.1 p.2) = some out from by rw [hp1, Option.bind_some]; exact HP2.out)
         clear hp1 HP1 HP2 hc
         go_wp2_with fail
         go_roundg (L.length - (i + 1))
         case measure => have := HI1.out; omega
         case rel => exact ⟨i + 1, m', g', rfl, rfl, by first | rfl | rw [wrap1o i (by have := HA1.out; have := HI1.out; omega)] | simp, ⟨by have := HI1.out; omega, Nat.le_refl _⟩, HQ2, HOo9, HOR9, HM9, HK9, HB9⟩
     ·exfalso
      have h := HQ.out
      rw [show L.length - i = 0 by omega, inF] at h
      cases h
   ·obtain hlen : out1.length = L.length := by have := HA.out.1; omega
    have e1 : decide (out1.length < L.length) = false := decide_eq_false hlt
    have h := HQ.out
    rw [hlen, Nat.sub_self, outF] at h
    obtain rfl := Option.some.inj h
    clear h hlt HA HQ
    go_wp2_with fail
    go_ret2
    exact ⟨_, rfl, HO.out, HB.out⟩
end Go.Proofs.YtmefnfhghfemgaaDoor.Q
end
section
namespace Go.Proofs.YtmefnfhghfemgaaDoor.Q
open Go.RowKit Go.Proofs.YtmefnfhghfemgaaDoorW.PrintWords Go.Proofs.YtmefnfhghfemgaaDoorW.PrintLast Go.Proofs.YtmefnfhghfemgaaDoorW.PrintMore
attribute [local go_sem] max2_int min2_int max_two min_two max_three min_three max_four min_four
set_option linter.unusedVariables false
set_option linter.unusedSimpArgs false
def laws_eqIntS.l0 : Nat → List Int → List Int → Int → Option (Bool)
 | 0, _, _, _ => none
 | k + 1, x0, x1, x5 => if x5 < (x0.length : Int) then (if 0 ≤ x5 then (if x5 < (x1.length : Int) then (if (rd x0 x5) = (rd x1 x5) then (laws_eqIntS.l0 k x0 x1 (wrap64 (x5 + 1))) else (some false)) else (none)) else (none)) else (some true)
def laws_eqIntS.f (k : Nat) (l0 : List Int) (l1 : List Int) : Option (Bool) := if (l0.length : Int) = (l1.length : Int) then (laws_eqIntS.l0 k l0 l1 0) else (some false)
set_option maxHeartbeats 8000000 in
set_option maxRecDepth 100000 in
theorem laws_eqIntS.calls (k : Nat) (A0 : Option Addr) (c0 : Nat) (l0 : List Int) (A1 : Option Addr) (c1 : Nat) (l1 : List Int) (r : Bool) (w : World) (hr0 : Kd.C (Kd.int .i64) w A0 l0.length l0) (hc0 : l0.length ≤ c0) (hr1 : Kd.C (Kd.int .i64) w A1 l1.length l1) (hc1 : l1.length ≤ c1) (h : laws_eqIntS.f k l0 l1 = some r) :
  Calls Tryd.prog 19 #[.slice A0 l0.length c0, .slice A1 l1.length c1] w fun e w' => e = .returned (.bool r) ∧ Drawn0 w w' := by
 have HR0 := Aside0.mk hr0
 have HC0 := Aside0.mk hc0
 clear hr0 hc0
 have HR1 := Aside0.mk hr1
 have HC1 := Aside0.mk hc1
 clear hr1 hc1
 have H : (if (l0.length : Int) = (l1.length : Int) then (laws_eqIntS.l0 k l0 l1 0) else (some false)) = some r := h
 clear h
 by_cases c3 : (l0.length : Int) = (l1.length : Int)
 ·rw [if_pos c3] at H
  have c3b0 : ((l0.length : Int) == (l1.length : Int)) = true := beq_iff_eq.mpr c3
  have c3b1 : ((l0.length : Int) != (l1.length : Int)) = false := bne_eq_false_iff_eq.mpr c3
  have c3b2 : (l0.length == l1.length) = true := by first | simpa using c3 | (simp at c3 ⊢; omega)
  clear c3
  have H' := Aside0.mk H
  clear H
  go_enter Tryd.func19, Tryd.ntmps19
  go_wp2
  repeat (go_quiet (fail); try go_wp2)
  go_loopg [5] k (fun kq v5 w' => ∃ (x5_1 : Int), v5 = .int .i64 x5_1 ∧ Aside0 (laws_eqIntS.l0 kq l0 l1 x5_1 = some r) ∧ Aside0 (kq ≤ k) ∧ Drawn0 w w')
  case atStart => exact ⟨(0), (by first | rfl | (simp; done) | (simp [*]; done)), H', ⟨Nat.le_refl _⟩, by repeat (first | exact Drawn0.refl _ | apply Drawn0.step)⟩
  case round =>
   clear H'
   try clear c1
   try clear p2
   try clear c3
   try clear c3b0
   try clear c3b0y
   try clear c3b1
   try clear c3b2
   obtain ⟨x5_1, rfl, HA, HK1, ⟨m1, rfl⟩⟩ := hrel
   cases gk with
   | zero => exact absurd HA.out (by simp [laws_eqIntS.l0])
   | succ k1 =>
    have H := HA.out
    clear HA
    simp only [laws_eqIntS.l0] at H
    by_cases c4 : x5_1 < (l0.length : Int)
    ·rw [if_pos c4] at H
     have c4b0 : decide (x5_1 < (l0.length : Int)) = true := decide_eq_true c4
     clear c4
     by_cases c5 : 0 ≤ x5_1
     ·rw [if_pos c5] at H
      have c5b0 : decide (0 ≤ x5_1) = true := decide_eq_true c5
      clear c5
      by_cases c6 : x5_1 < (l1.length : Int)
      ·rw [if_pos c6] at H
       have c6b0 : decide (x5_1 < (l1.length : Int)) = true := decide_eq_true c6
       clear c6
       by_cases c7 : (rd l0 x5_1) = (rd l1 x5_1)
       ·rw [if_pos c7] at H
        have c7b0 : ((rd l0 x5_1) == (rd l1 x5_1)) = true := beq_iff_eq.mpr c7
        have c7b1 : ((rd l0 x5_1) != (rd l1 x5_1)) = false := bne_eq_false_iff_eq.mpr c7
        clear c7
        have H' := Aside0.mk H
        clear H
        have p101 : 0 ≤ (x5_1 : Int) := of_decide_eq_true (by first | (with_reducible assumption) | assumption)
        have q101 : x5_1 < (l0.length : Int) := of_decide_eq_true (by first | (with_reducible assumption) | assumption)
        obtain ⟨ad101, e101, hx101_0⟩ := Kd.at_int HR0.out x5_1 p101 q101
        cases e101
        replace p101 := eq_true p101
        replace q101 := eq_true q101
        have p102 : 0 ≤ (x5_1 : Int) := of_decide_eq_true (by first | (with_reducible assumption) | assumption)
        have q102 : x5_1 < (l1.length : Int) := of_decide_eq_true (by first | (with_reducible assumption) | assumption)
        obtain ⟨ad102, e102, hx102_0⟩ := Kd.at_int HR1.out x5_1 p102 q102
        cases e102
        replace p102 := eq_true p102
        replace q102 := eq_true q102
        go_wp2
        repeat (go_quiet (fail); try go_wp2)
        go_roundg k1
        case measure => have := HK1.out; omega
        case rel => exact ⟨(wrap64 (x5_1 + 1)), (by first | rfl | (simp; done) | (simp [*]; done)), H', ⟨by have := HK1.out; omega⟩, by repeat (first | exact Drawn0.refl _ | apply Drawn0.step)⟩
       ·rw [if_neg c7] at H
        have c7b0 : ((rd l0 x5_1) == (rd l1 x5_1)) = false := beq_eq_false_iff_ne.mpr c7
        have c7b1 : ((rd l0 x5_1) != (rd l1 x5_1)) = true := bne_iff_ne.mpr c7
        obtain rfl := Option.some.inj H
        have p101 : 0 ≤ (x5_1 : Int) := of_decide_eq_true (by first | (with_reducible assumption) | assumption)
        have q101 : x5_1 < (l0.length : Int) := of_decide_eq_true (by first | (with_reducible assumption) | assumption)
        obtain ⟨ad101, e101, hx101_0⟩ := Kd.at_int HR0.out x5_1 p101 q101
        cases e101
        replace p101 := eq_true p101
        replace q101 := eq_true q101
        have p102 : 0 ≤ (x5_1 : Int) := of_decide_eq_true (by first | (with_reducible assumption) | assumption)
        have q102 : x5_1 < (l1.length : Int) := of_decide_eq_true (by first | (with_reducible assumption) | assumption)
        obtain ⟨ad102, e102, hx102_0⟩ := Kd.at_int HR1.out x5_1 p102 q102
        cases e102
        replace p102 := eq_true p102
        replace q102 := eq_true q102
        go_wp2
        repeat (go_quiet (fail); try go_wp2)
        go_ret
        exact ⟨by first | rfl | (simp; done) | (simp [*]; done), by repeat (first | exact Drawn0.refl _ | apply Drawn0.step)⟩
      ·rw [if_neg c6] at H
       exact absurd H (by simp)
     ·rw [if_neg c5] at H
      exact absurd H (by simp)
    ·rw [if_neg c4] at H
     have c4b0 : decide (x5_1 < (l0.length : Int)) = false := decide_eq_false c4
     clear c4
     obtain rfl := Option.some.inj H
     go_wp2
     repeat (go_quiet (fail); try go_wp2)
     go_ret
     exact ⟨by first | rfl | (simp; done) | (simp [*]; done), by repeat (first | exact Drawn0.refl _ | apply Drawn0.step)⟩
 ·rw [if_neg c3] at H
  have c3b0 : ((l0.length : Int) == (l1.length : Int)) = false := beq_eq_false_iff_ne.mpr c3
  have c3b1 : ((l0.length : Int) != (l1.length : Int)) = true := bne_iff_ne.mpr c3
  have c3b2 : (l0.length == l1.length) = false := by first | simpa using c3 | (simp at c3 ⊢; omega)
  obtain rfl := Option.some.inj H
  go_enter Tryd.func19, Tryd.ntmps19
  go_wp2
  repeat (go_quiet (fail); try go_wp2)
  go_ret
  exact ⟨by first | rfl | (simp; done) | (simp [*]; done), by repeat (first | exact Drawn0.refl _ | apply Drawn0.step)⟩
def laws_markIntS.l0 : Nat → List Int → Int → Int → Option (Int × List Int)
 | 0, _, _, _ => none
 | k + 1, x0, x1, x5 => if x5 < (x0.length : Int) then (if 0 ≤ x5 then (laws_markIntS.l0 k (x0.set (x5 : Int).toNat x1) (wrap64 (x1 + 1)) (wrap64 (x5 + 1))) else (none)) else (some (x1, x0))
def laws_markIntS.f (k : Nat) (l0 : List Int) (a1 : Int) : Option (Int × List Int) := laws_markIntS.l0 k l0 a1 0
set_option maxHeartbeats 8000000 in
set_option maxRecDepth 100000 in
theorem laws_markIntS.calls (k : Nat) (P0_ : Nat → Prop) (u9000_ : Value) (l0 : List Int) (a1 : Int) (r1 : Int) (r2 : List Int) (w0 w : World) (hB : Below w0.heap.size w0 w) (ho0 : Kd.R (Kd.int .i64) 3 w w0.heap.size P0_ u9000_ l0) (h : laws_markIntS.f k l0 a1 = some (r1, r2)) :
  Calls Tryd.prog 20 #[u9000_, .int .i64 a1] w fun e w' => e = .returned (.int .i64 r1) ∧ Kd.R (Kd.int .i64) 3 w' w0.heap.size (fun k_ => (P0_ k_ ∨ w.heap.size ≤ k_)) u9000_ r2 ∧ Below w0.heap.size w0 w' ∧ Kept w w' (fun k_ => P0_ k_) := by
 have HO0 := Aside0.mk (show Kd.R (Kd.int .i64) 3 w w0.heap.size (fun k_ => (P0_ k_ ∨ w.heap.size ≤ k_)) u9000_ l0 from Kd.R_mono ho0 (fun k_ hk => (.inl hk)))
 have HK := Aside0.mk (Kept.refl w (fun k_ => P0_ k_))
 have HW0 := Aside0.mk hB.size
 have HB := Aside0.mk hB
 clear hB
 have H : (laws_markIntS.l0 k l0 a1 0) = some (r1, r2) := h
 clear h
 have H' := Aside0.mk H
 clear H
 go_enter Tryd.func20, Tryd.ntmps20
 go_wp2
 go_loopg [1, 5] k (fun kq v1 v5 w' => ∃ (x0_1 : List Int) (x1_1 : Int) (x5_1 : Int), v1 = .int .i64 x1_1 ∧ v5 = .int .i64 x5_1 ∧ Aside0 (laws_markIntS.l0 kq x0_1 x1_1 x5_1 = some (r1, r2)) ∧ Aside0 (kq ≤ k) ∧ Aside0 (Kd.R (Kd.int .i64) 3 w' w0.heap.size (fun k_ => (P0_ k_ ∨ w.heap.size ≤ k_)) u9000_ x0_1) ∧ Aside0 (Kept w w' (fun k_ => P0_ k_)) ∧ Aside0 (Below w0.heap.size w0 w'))
 case atStart => exact ⟨(l0), (a1), (0), (by first | rfl | (simp; done) | (simp [*]; done)), (by first | rfl | (simp; done) | (simp [*]; done)), H', ⟨Nat.le_refl _⟩, ⟨rch HO0⟩, ⟨by repeat (first | (with_reducible first | exact HK.out | apply Kept.alloc | apply Kept.drewN | apply Kept.drew) | exact HK.out)⟩, ⟨bel HB⟩⟩
 case round =>
  clear H'
  try clear c2
  try clear p2
  obtain ⟨x0_1, x1_1, x5_1, rfl, rfl, HA, HK1, HO_0, HK, HB⟩ := hrel
  cases gk with
  | zero => exact absurd HA.out (by simp [laws_markIntS.l0])
  | succ k1 =>
   have H := HA.out
   clear HA
   simp only [laws_markIntS.l0] at H
   by_cases c3 : x5_1 < (x0_1.length : Int)
   ·rw [if_pos c3] at H
    have c3b0 : decide (x5_1 < (x0_1.length : Int)) = true := decide_eq_true c3
    clear c3
    by_cases c4 : 0 ≤ x5_1
    ·rw [if_pos c4] at H
     have c4b0 : decide (0 ≤ x5_1) = true := decide_eq_true c4
     clear c4
     obtain ⟨y101, hy101⟩ : ∃ y_ : List Int, y_ = (x0_1.set (x5_1 : Int).toNat x1_1) := ⟨_, rfl⟩
     replace H : (laws_markIntS.l0 k1 y101 (wrap64 (x1_1 + 1)) (wrap64 (x5_1 + 1))) = some (r1, r2) := rH hy101 H
     have Ny101 := Aside0.mk hy101
     clear hy101
     have H' := Aside0.mk H
     clear H
     obtain ⟨Ao6, co6, eo6⟩ := Kd.R_slice HO_0.out
     subst eo6
     have p5 : 0 ≤ (x5_1 : Int) := of_decide_eq_true (by first | (with_reducible assumption) | assumption)
     have q5 : (x5_1 : Int) < ((x0_1.length : Int) : Int) := of_decide_eq_true (by first | (with_reducible assumption) | assumption)
     obtain ⟨go5, co5, eo5, gb5, gl5, cl5, HG5⟩ := Kd.R_form HO_0.out (by omega)
     (first | cases eo5 | (injection eo5 with ea_ en_ ec_; (first | subst ea_ | (injection ea_ with ea_; subst ea_)); subst ec_; clear en_))
     have GB5 := Aside0.mk gb5
     have GG5 := Aside0.mk HG5
     clear gb5 gl5 HG5
     have HMgo5 := Aside0.mk (show (P0_ go5 ∨ w.heap.size ≤ go5) from (HO_0.out.1 _ rfl))
     obtain ⟨hx5_0, hf5_0⟩ := Kd.R_celln 0 HO_0.out (x5_1 : Int) p5 q5
     replace p5 := eq_true p5
     replace q5 := eq_true q5
     have HP7 := Kd.R_putg HO_0.out (x5_1 : Int) x1_1
     go_wp2_with (first | ((with_reducible refine gate_store (t := 3) (p := 15) rfl ?_); refine store_event (t := 3) (p := 15) (v := ?vo_w8) (w1 := (wr.setCell ⟨go5, (x5_1 : Int).toNat, none⟩ (.int .i64 x1_1))) ?hg ?ho ?hn ?hr ?_; (case ho => rfl); (case hg => rfl); (case hn => rfl); (case hr => first | (go_simp; done) | (go_simp; rfl)); intro w8 hw; have hg : wr.grownBy w8 (some go5) := (by rw [hw]; exact HP7.2); have hp_ : Kd.R (Kd.int .i64) 3 w8 w0.heap.size (fun k_ => (P0_ k_ ∨ w.heap.size ≤ k_)) (.slice (some ⟨go5, 0, none⟩) x0_1.length co6) y101 := (by rw [hw, Ny101.out]; (first | exact HP7.1 | exact R_any HP7.1)); clear HP7; have n0_ := Aside0.mk (hp_); have n1_ := Aside0.mk ((by rw [hw]; exact below_set (HB.out) GB5.out : Below w0.heap.size w0 w8)); have n2_ := Aside0.mk (Kept.of_grown (S := (fun k_ => P0_ k_)) hg (by repeat (first | (with_reducible first | exact HK.out | apply Kept.alloc | apply Kept.drewN | apply Kept.drew) | exact HK.out)) (fun k_ e_ => (HO_0.out.1 k_ e_))); clear HO_0; clear HB; clear HK; have HO_0 := n0_; have HB := n1_; have HK := n2_; clear n0_ n1_ n2_; clear hg hw hp_))
     go_roundg k1
     case measure => have := HK1.out; omega
     case rel => exact ⟨(y101), (wrap64 (x1_1 + 1)), (wrap64 (x5_1 + 1)), (by first | rfl | (simp; done) | (simp [*]; done)), (by first | rfl | (simp; done) | (simp [*]; done)), H', ⟨by have := HK1.out; omega⟩, ⟨rch HO_0⟩, ⟨by repeat (first | (with_reducible first | exact HK.out | apply Kept.alloc | apply Kept.drewN | apply Kept.drew) | exact HK.out)⟩, ⟨bel HB⟩⟩
    ·rw [if_neg c4] at H
     exact absurd H (by simp)
   ·rw [if_neg c3] at H
    have c3b0 : decide (x5_1 < (x0_1.length : Int)) = false := decide_eq_false c3
    clear c3
    simp only [Option.some.injEq, Prod.mk.injEq] at H
    obtain ⟨rfl, rfl⟩ := H
    obtain ⟨Ao9, co9, eo9⟩ := Kd.R_slice HO_0.out
    subst eo9
    go_wp2
    go_ret
    exact ⟨by first | rfl | (simp [errW_none, errW_some] <;> rfl) | (simp [*, errW_none, errW_some] <;> rfl), rch HO_0, by repeat (first | (with_reducible first | exact HB.out | apply below_alloc | apply pw_below_drewN | apply below_drew1) | exact HB.out), by repeat (first | (with_reducible first | exact HK.out | apply Kept.alloc | apply Kept.drewN | apply Kept.drew) | exact HK.out)⟩
def laws_heldIntS.l0 : Nat → List Int → Int → Int → Option (Int)
 | 0, _, _, _ => none
 | k + 1, x0, x1, x5 => if x5 < (x0.length : Int) then (if 0 ≤ x5 then (if (rd x0 x5) = x1 then (laws_heldIntS.l0 k x0 (wrap64 (x1 + 1)) (wrap64 (x5 + 1))) else (some (-1))) else (none)) else (some x1)
def laws_heldIntS.f (k : Nat) (l0 : List Int) (a1 : Int) : Option (Int) := laws_heldIntS.l0 k l0 a1 0
set_option maxHeartbeats 8000000 in
set_option maxRecDepth 100000 in
theorem laws_heldIntS.calls (k : Nat) (A0 : Option Addr) (c0 : Nat) (l0 : List Int) (a1 : Int) (r : Int) (w : World) (hr0 : Kd.C (Kd.int .i64) w A0 l0.length l0) (hc0 : l0.length ≤ c0) (h : laws_heldIntS.f k l0 a1 = some r) :
  Calls Tryd.prog 21 #[.slice A0 l0.length c0, .int .i64 a1] w fun e w' => e = .returned (.int .i64 r) ∧ Drawn0 w w' := by
 have HR0 := Aside0.mk hr0
 have HC0 := Aside0.mk hc0
 clear hr0 hc0
 have H : (laws_heldIntS.l0 k l0 a1 0) = some r := h
 clear h
 have H' := Aside0.mk H
 clear H
 go_enter Tryd.func21, Tryd.ntmps21
 go_wp2
 go_loopg [1, 5] k (fun kq v1 v5 w' => ∃ (x1_1 : Int) (x5_1 : Int), v1 = .int .i64 x1_1 ∧ v5 = .int .i64 x5_1 ∧ Aside0 (laws_heldIntS.l0 kq l0 x1_1 x5_1 = some r) ∧ Aside0 (kq ≤ k) ∧ Drawn0 w w')
 case atStart => exact ⟨(a1), (0), (by first | rfl | (simp; done) | (simp [*]; done)), (by first | rfl | (simp; done) | (simp [*]; done)), H', ⟨Nat.le_refl _⟩, by repeat (first | exact Drawn0.refl _ | apply Drawn0.step)⟩
 case round =>
  clear H'
  try clear c2
  try clear p2
  obtain ⟨x1_1, x5_1, rfl, rfl, HA, HK1, ⟨m1, rfl⟩⟩ := hrel
  cases gk with
  | zero => exact absurd HA.out (by simp [laws_heldIntS.l0])
  | succ k1 =>
   have H := HA.out
   clear HA
   simp only [laws_heldIntS.l0] at H
   by_cases c3 : x5_1 < (l0.length : Int)
   ·rw [if_pos c3] at H
    have c3b0 : decide (x5_1 < (l0.length : Int)) = true := decide_eq_true c3
    clear c3
    by_cases c4 : 0 ≤ x5_1
    ·rw [if_pos c4] at H
     have c4b0 : decide (0 ≤ x5_1) = true := decide_eq_true c4
     clear c4
     by_cases c5 : (rd l0 x5_1) = x1_1
     ·rw [if_pos c5] at H
      have c5b0 : ((rd l0 x5_1) == x1_1) = true := beq_iff_eq.mpr c5
      have c5b1 : ((rd l0 x5_1) != x1_1) = false := bne_eq_false_iff_eq.mpr c5
      clear c5
      have H' := Aside0.mk H
      clear H
      have p101 : 0 ≤ (x5_1 : Int) := of_decide_eq_true (by first | (with_reducible assumption) | assumption)
      have q101 : x5_1 < (l0.length : Int) := of_decide_eq_true (by first | (with_reducible assumption) | assumption)
      obtain ⟨ad101, e101, hx101_0⟩ := Kd.at_int HR0.out x5_1 p101 q101
      cases e101
      replace p101 := eq_true p101
      replace q101 := eq_true q101
      go_wp2
      go_roundg k1
      case measure => have := HK1.out; omega
      case rel => exact ⟨(wrap64 (x1_1 + 1)), (wrap64 (x5_1 + 1)), (by first | rfl | (simp; done) | (simp [*]; done)), (by first | rfl | (simp; done) | (simp [*]; done)), H', ⟨by have := HK1.out; omega⟩, by repeat (first | exact Drawn0.refl _ | apply Drawn0.step)⟩
     ·rw [if_neg c5] at H
      have c5b0 : ((rd l0 x5_1) == x1_1) = false := beq_eq_false_iff_ne.mpr c5
      have c5b1 : ((rd l0 x5_1) != x1_1) = true := bne_iff_ne.mpr c5
      obtain rfl := Option.some.inj H
      have p101 : 0 ≤ (x5_1 : Int) := of_decide_eq_true (by first | (with_reducible assumption) | assumption)
      have q101 : x5_1 < (l0.length : Int) := of_decide_eq_true (by first | (with_reducible assumption) | assumption)
      obtain ⟨ad101, e101, hx101_0⟩ := Kd.at_int HR0.out x5_1 p101 q101
      cases e101
      replace p101 := eq_true p101
      replace q101 := eq_true q101
      go_wp2
      go_ret
      exact ⟨by first | rfl | (simp; done) | (simp [*]; done), by repeat (first | exact Drawn0.refl _ | apply Drawn0.step)⟩
    ·rw [if_neg c4] at H
     exact absurd H (by simp)
   ·rw [if_neg c3] at H
    have c3b0 : decide (x5_1 < (l0.length : Int)) = false := decide_eq_false c3
    clear c3
    obtain rfl := Option.some.inj H
    go_wp2
    go_ret
    exact ⟨by first | rfl | (simp; done) | (simp [*]; done), by repeat (first | exact Drawn0.refl _ | apply Drawn0.step)⟩
end Go.Proofs.YtmefnfhghfemgaaDoor.Q
end
section
namespace Go.Proofs.YtmefnfhghfemgaaDoor.Q
set_option linter.unusedSectionVars false
open Go.RowKit Go.Proofs.YtmefnfhghfemgaaDoorW.PrintWords Go.Proofs.YtmefnfhghfemgaaDoorW.PrintLast Go.Proofs.YtmefnfhghfemgaaDoorW.PrintMore
theorem eqInts_l0 (l : List Int) (hl : l.length ≤ 1000000) : ∀ (m t : Nat), t + m = l.length → Ev (fun k => laws_eqIntS.l0 k l l t) true
 | 0, t, ht => by
  refine Ev.step (Ev.const (o := some true) rfl) fun k => ?_
  rw [laws_eqIntS.l0, if_neg (by omega)]
 | m + 1, t, ht => by
  have ih := eqInts_l0 l hl m (t + 1) (by omega)
  have hwt : wrap64 ((t : Int) + 1) = ((t + 1 : Nat) : Int) := by rw [w64 (by omega) (by omega)]; omega
  refine Ev.step ih fun k => ?_
  rw [laws_eqIntS.l0, if_pos (by omega), if_pos (by omega), if_pos (by omega), if_pos rfl, hwt]
theorem eqInts_ev (l : List Int) (hl : l.length ≤ 1000000) : Ev (fun k => laws_eqIntS.f k l l) true :=
 Ev.congr (eqInts_l0 l hl l.length 0 (by omega)) fun k => if_pos rfl
theorem mark_l0 (n : Nat) (a : Int) (h0 : 0 ≤ a) (h1 : a ≤ 1000000) (hn : n ≤ 1000000) : ∀ (m t : Nat) (l : List Int), t + m = n → l.length = n → (∀ j : Int, 0 ≤ j → j < (t : Int) → rd l j = a + j) →
  ∃ l', l'.length = n ∧ (∀ j : Int, 0 ≤ j → j < (n : Int) → rd l' j = a + j) ∧ Ev (fun k => laws_markIntS.l0 k l (a + t) t) (a + n, l')
 | 0, t, l, ht, hl, hv => by
  obtain rfl : t = n := by omega
  refine ⟨l, hl, hv, Ev.step (Ev.const (o := some (a + t, l)) rfl) fun k => ?_⟩
  rw [laws_markIntS.l0, if_neg (by omega)]
 | m + 1, t, l, ht, hl, hv => by
  obtain ⟨l', e1, e2, e3⟩ := mark_l0 n a h0 h1 hn m (t + 1) (l.set ((t : Nat) : Int).toNat (a + t)) (by omega) (by rw [List.length_set]; exact hl) (fun j h2 h3 => by
   rw [rd_set l t j (a + t) (by omega) (by omega) h2]
   split
   ·rename_i e; rw [e]
   ·exact hv j h2 (by omega))
  have hwt : wrap64 ((t : Int) + 1) = ((t + 1 : Nat) : Int) := by rw [w64 (by omega) (by omega)]; omega
  have hwa : wrap64 (a + (t : Int) + 1) = a + ((t + 1 : Nat) : Int) := by rw [w64 (by omega) (by omega)]; omega
  refine ⟨l', e1, e2, Ev.step e3 fun k => ?_⟩
  rw [laws_markIntS.l0, if_pos (by omega), if_pos (by omega), hwt, hwa]
theorem mark_ev (l : List Int) (a : Int) (h0 : 0 ≤ a) (h1 : a ≤ 1000000) (hn : l.length ≤ 1000000) : ∃ l', l'.length = l.length ∧ (∀ j : Int, 0 ≤ j → j < (l.length : Int) → rd l' j = a + j) ∧ Ev (fun k => laws_markIntS.f k l a) (a + l.length, l') := by
 obtain ⟨l', e1, e2, e3⟩ := mark_l0 l.length a h0 h1 hn l.length 0 l (by omega) rfl (fun j h2 h3 => by omega)
 refine ⟨l', e1, e2, Ev.congr e3 fun k => ?_⟩
 unfold laws_markIntS.f
 rw [show a + ((0 : Nat) : Int) = a by omega]
 rfl
theorem held_l0 (n : Nat) (a : Int) (h0 : 0 ≤ a) (h1 : a ≤ 1000000) (hn : n ≤ 1000000) (l : List Int) (hl : l.length = n) (hv : ∀ j : Int, 0 ≤ j → j < (n : Int) → rd l j = a + j) : ∀ (m t : Nat), t + m = n → Ev (fun k => laws_heldIntS.l0 k l (a + t) t) (a + n)
 | 0, t, ht => by
  obtain rfl : t = n := by omega
  refine Ev.step (Ev.const (o := some (a + (t : Int))) rfl) fun k => ?_
  rw [laws_heldIntS.l0, if_neg (by omega)]
 | m + 1, t, ht => by
  have ih := held_l0 n a h0 h1 hn l hl hv m (t + 1) (by omega)
  have hwt : wrap64 ((t : Int) + 1) = ((t + 1 : Nat) : Int) := by rw [w64 (by omega) (by omega)]; omega
  have hwa : wrap64 (a + (t : Int) + 1) = a + ((t + 1 : Nat) : Int) := by rw [w64 (by omega) (by omega)]; omega
  refine Ev.step ih fun k => ?_
  rw [laws_heldIntS.l0, if_pos (by omega), if_pos (by omega), hv t (by omega) (by omega), if_pos rfl, hwt, hwa]
theorem held_ev (l : List Int) (a : Int) (h0 : 0 ≤ a) (h1 : a ≤ 1000000) (hn : l.length ≤ 1000000) (hv : ∀ j : Int, 0 ≤ j → j < (l.length : Int) → rd l j = a + j) : Ev (fun k => laws_heldIntS.f k l a) (a + l.length) := by
 refine Ev.congr (held_l0 l.length a h0 h1 hn l rfl hv l.length 0 (by omega)) fun k => ?_
 unfold laws_heldIntS.f
 rw [show a + ((0 : Nat) : Int) = a by omega]
 rfl
end Go.Proofs.YtmefnfhghfemgaaDoor.Q
end
section
namespace Go.Proofs.YtmefnfhghfemgaaDoor.Q
set_option linter.unusedSectionVars false
set_option linter.unusedSimpArgs false
set_option linter.unusedVariables false
open Go.RowKit Go.Proofs.YtmefnfhghfemgaaDoorW.PrintWords Go.Proofs.YtmefnfhghfemgaaDoorW.PrintLast Go.Proofs.YtmefnfhghfemgaaDoorW.PrintMore
mutual
def spec_FirstOrder.l0 : Nat → List Int → List Int → List Int → Int → Int → Int → List Int → Option (List Int × Bool)
 | 0, _, _, _, _, _, _, _ => none
 | k + 1, x6, x7, x8, x9, x108000, x108001, x108002 => if (x8.length : Int) < (x6.length : Int) then ((spec_tyEmpty.f k x108000 x108001).bind fun bt114 => (spec_FirstOrder.l1 k x6 x7 x8 x9 false x8 (x8.length : Int) 0 x108000 x108001 x108002 bt114.1 bt114.2.1 bt114.2.2)) else (some (x8, true))
def spec_FirstOrder.l1 : Nat → List Int → List Int → List Int → Int → Bool → List Int → Int → Int → Int → Int → List Int → Int → Int → List Int → Option (List Int × Bool)
 | 0, _, _, _, _, _, _, _, _, _, _, _, _, _, _ => none
 | k + 1, x6, x7, x8, x9, x10, x39, x40, x41, x108000, x108001, x108002, x120000, x120001, x120002 => if x41 < x40 then (if 0 ≤ x41 then (if x41 < (x39.length : Int) then (if 0 ≤ (rd x39 x41) then (if (rd x39 x41) < (x120002.length : Int) then (spec_FirstOrder.l1 k x6 x7 x8 x9 x10 x39 x40 (wrap64 (x41 + 1)) x108000 x108001 x108002 x120000 x120001 (x120002.set ((rd x39 x41) : Int).toNat 111)) else (none)) else (none)) else (none)) else (none)) else (spec_FirstOrder.l2 k x6 x7 x8 x9 x10 x6 (x6.length : Int) 0 x108000 x108001 x108002 x120000 x120001 x120002)
def spec_FirstOrder.l2 : Nat → List Int → List Int → List Int → Int → Bool → List Int → Int → Int → Int → Int → List Int → Int → Int → List Int → Option (List Int × Bool)
 | 0, _, _, _, _, _, _, _, _, _, _, _, _, _, _ => none
 | k + 1, x6, x7, x8, x9, x10, x50, x51, x52, x108000, x108001, x108002, x120000, x120001, x120002 => if x52 < x51 then (if 0 ≤ x52 then (if x52 < (x50.length : Int) then (if x10 = true then (spec_FirstOrder.l2 k x6 x7 x8 x9 x10 x50 x51 (wrap64 (x52 + 1)) x108000 x108001 x108002 x120000 x120001 x120002) else (if (Int.tmod (shr .i64 x9 x52) 2) = 1 then (spec_FirstOrder.l2 k x6 x7 x8 x9 x10 x50 x51 (wrap64 (x52 + 1)) x108000 x108001 x108002 x120000 x120001 x120002) else (if (x8.length : Int) > 0 then ((spec_buWay.f k x120000 x120001 x120002 (rd x50 x52)).bind fun t123 => (if t123 < 0 then (spec_FirstOrder.l2 k x6 x7 x8 x9 x10 x50 x51 (wrap64 (x52 + 1)) x108000 x108001 x108002 x120000 x120001 x120002) else ((spec_buGoes.f k x108000 x108001 x108002 (wrap64 (x9 + (shl .i64 1 x52))) x7).bind fun bt124 => (if bt124.1 = true then (if x8.length < 17592186044416 then (spec_FirstOrder.l2 k x6 bt124.2 (x8 ++ [rd x50 x52]) (wrap64 (x9 + (shl .i64 1 x52))) true x50 x51 (wrap64 (x52 + 1)) x108000 x108001 x108002 x120000 x120001 x120002) else (none)) else (spec_FirstOrder.l2 k x6 bt124.2 x8 x9 x10 x50 x51 (wrap64 (x52 + 1)) x108000 x108001 x108002 x120000 x120001 x120002))))) else ((spec_buGoes.f k x108000 x108001 x108002 (wrap64 (x9 + (shl .i64 1 x52))) x7).bind fun bt129 => (if bt129.1 = true then (if x8.length < 17592186044416 then (spec_FirstOrder.l2 k x6 bt129.2 (x8 ++ [rd x50 x52]) (wrap64 (x9 + (shl .i64 1 x52))) true x50 x51 (wrap64 (x52 + 1)) x108000 x108001 x108002 x120000 x120001 x120002) else (none)) else (spec_FirstOrder.l2 k x6 bt129.2 x8 x9 x10 x50 x51 (wrap64 (x52 + 1)) x108000 x108001 x108002 x120000 x120001 x120002)))))) else (none)) else (none)) else (if x10 = true then (spec_FirstOrder.l0 k x6 x7 x8 x9 x108000 x108001 x108002) else (some (([] : List Int), false)))
end
def spec_FirstOrder.f (k : Nat) (a0 : ByteArray) : Option (List Int × Bool) := (spec_buRead.f k a0).bind fun bt101 => (if bt101.2.2.2 = true then ((spec_tyBalls.f k bt101.1 bt101.2.1 bt101.2.2.1).bind fun t108 => (if t108.length ≤ 10 then (if 0 ≤ (shl .i64 1 (t108.length : Int)) then (if (shl .i64 1 (t108.length : Int) : Int).toNat ≤ 35184372088832 then (spec_FirstOrder.l0 k t108 (List.replicate (shl .i64 1 (t108.length : Int) : Int).toNat 0) ([] : List Int) 0 bt101.1 bt101.2.1 bt101.2.2.1) else (none)) else (none)) else (none))) else (some (([] : List Int), false)))
structure FS (w W : World) (gb : Nat) (tw th : Int) (A : Option Addr) (c : Nat) (gc : List Int) (AL : Option Addr) (cL : Nat) (L : List Int) (u : Value) (M : List Int) (v : Value) (out : List Int) : Prop where
 below : Below w.heap.size w W
 box : W.heap[gb]? = some (.cells #[.int .i64 tw, .int .i64 th, .slice A gc.length c] 40 (0, 0))
 cells : Kd.V (Kd.int .u8) 5 W 0 (fun k => some k ≠ u.ownBlock ∧ some k ≠ v.ownBlock) (.slice A gc.length c) gc
 list : Kd.V (Kd.int .i64) 3 W 0 (fun k => some k ≠ u.ownBlock ∧ some k ≠ v.ownBlock) (.slice AL L.length cL) L
 memo : Kd.R (Kd.int .i64) 3 W w.heap.size (fun k => some k = u.ownBlock) u M
 out : Kd.R (Kd.int .i64) 3 W w.heap.size (fun k => some k ≠ u.ownBlock) v out
section
variable {w W W1 : World} {gb : Nat} {tw th : Int} {A AL : Option Addr} {c cL : Nat} {gc L M M' out : List Int} {u v : Value}
theorem FS.step (h : FS w W gb tw th A c gc AL cL L u M v out) (hb : Below W.heap.size W W1) : FS w W1 gb tw th A c gc AL cL L u M v out :=
 ⟨below_then h.below h.below.size hb, blk_below h.box hb, Kd.V_below h.cells hb, Kd.V_below h.list hb, Kd.R_below h.memo hb, Kd.R_below h.out hb⟩
theorem FS.next (h : FS w W gb tw th A c gc AL cL L u M v out) (hk : Kept W W1 (fun k => some k = u.ownBlock)) (hb : Below w.heap.size w W1) (hm : Kd.R (Kd.int .i64) 3 W1 w.heap.size (fun k => some k = u.ownBlock ∨ W.heap.size ≤ k) u M') : FS w W1 gb tw th A c gc AL cL L u M' v out :=
 ⟨hb, blk_kept h.box hk (Kd.R_ne h.memo h.box (by decide)), Kd.V_map h.cells fun _ hf => Kd.F_step hf fun k ho hlt => hk.2 k hlt ho.1, Kd.V_map h.list fun _ hf => Kd.F_step hf fun k ho hlt => hk.2 k hlt ho.1, Kd.R_tight rfl hm, Kd.R_kept h.out hk fun k ho => ho⟩
theorem FS.cap (h : FS w W gb tw th A c gc AL cL L u M v out) (hk : Kept W W1 (fun k => some k = u.ownBlock)) : Kd.C (Kd.int .u8) W1 A gc.length gc :=
 (Kd.V_reads' (Kd.V_map (w1 := W1) (base' := 0) h.cells fun _ hf => Kd.F_step hf fun k ho hlt => hk.2 k hlt ho.1)).2.2
theorem FS.apart (h : FS w W gb tw th A c gc AL cL L u M v out) : ∀ k, some k = u.ownBlock → some k ≠ v.ownBlock := fun k hk e => h.out.1 k e.symm hk
theorem FS.more {v1 : Value} {out1 : List Int} (h : FS w W gb tw th A c gc AL cL L u M v out) (hg : W.grownBy W1 v.ownBlock) (hat : v1.ownBlock = v.ownBlock ∨ ∃ b, v1.ownBlock = some b ∧ W.heap.size ≤ b) (hb : Below w.heap.size w W1) (ho : Kd.R (Kd.int .i64) 3 W1 w.heap.size (fun k => some k ≠ u.ownBlock) v1 out1) : FS w W1 gb tw th A c gc AL cL L u M v1 out1 :=
 ⟨hb, blk_grown h.box hg (Kd.R_ne h.out h.box (by decide)), Kd.V_after h.cells hg hat, Kd.V_after h.list hg hat, Kd.R_grown h.memo hg h.apart, ho⟩
end
def spec_FirstOrder.D (n : Nat) : Array Bool := (Array.range 29).map fun k => n.testBit k
def spec_FirstOrder.T19 : Bool × List (List Nat × List Nat) := (true, [([], []), ([0], [0]), ([1], [1]), ([1], [1]), ([2, 3, 1], [1, 2, 3]), ([4, 1], [1, 4]), ([5, 1], [1, 5]), ([1, 6], [1, 6]), ([7, 1], [7]), ([8], [8]), ([9, 8], [8, 9]), ([10, 8], [8, 10]), ([11, 8, 8], [8, 11]), ([12], [12]), ([12], [12]), ([13, 14, 12, 12], [12, 13, 14]), ([15, 12], [12, 15]), ([12, 16, 8], [8, 12, 16]), ([8, 17], [8, 17]), ([18, 15], [18]), ([19], [19]), ([19], [19]), ([19], [19]), ([22, 19], [19, 22]), ([21, 23, 19], [19, 21, 23]), ([19], [19]), ([20, 24, 25, 19, 19], [19, 20, 24, 25]), ([26, 19], [19, 26]), ([19, 27], [19, 27])])
def spec_FirstOrder.B19 : List Nat := [0, 1, 3, 3, 15, 31, 63, 127, 255, 511, 1023, 2047, 4095, 8191, 8191, 32767, 65535, 131071, 262143, 524287, 1048575, 1048575, 1048575, 5242879, 15728639, 1048575, 67108863, 134217727, 268435455]
theorem spec_FirstOrder.tab19 : rtab .any (opsOf Tryd.f17 19) = spec_FirstOrder.T19 := by kernel_rfl
theorem spec_FirstOrder.bits19 : waitsOk spec_FirstOrder.T19.2 spec_FirstOrder.B19 = true := by kernel_rfl
theorem sh_bit (x : Int) (i : Nat) : Int.tmod (shr .i64 x (i : Int)) 2 = Int.tmod (x / 2 ^ min i 64) 2 := by
 unfold shr
 rw [Int.toNat_natCast]
 rfl
theorem sh_add (x : Int) (i : Nat) : wrap64 (x + shl .i64 1 (i : Int)) = wrap64 (x + wrap64 (2 ^ min i 64)) := by
 unfold shl
 rw [Int.toNat_natCast, Int.one_mul, i64_w]
 rfl
set_option maxHeartbeats 16000000 in
set_option maxRecDepth 100000 in
theorem spec_FirstOrder.calls (k : Nat) (a0 : ByteArray) (r1 : List Int) (r2 : Bool) (w : World) (h : spec_FirstOrder.f k a0 = some (r1, r2)) :
  Calls Tryd.prog 17 #[.string a0] w fun e w' => ∃ v0_ : Value, e = .returned (.tuple #[v0_, .bool r2]) ∧ Kd.R (Kd.int .i64) 3 w' w.heap.size (fun _ => True) v0_ r1 ∧ Below w.heap.size w w' := by
 have hu := Tryd.underlying40
 unfold spec_FirstOrder.f at h
 obtain ⟨⟨gw, gh, gc, ok⟩, hb, h⟩ := Option.bind_eq_some_iff.1 h
 have HRD := Aside0.mk hb
 clear hb
 cases ok with
 | false =>
  rw [if_neg Bool.false_ne_true] at h
  simp only [Option.some.injEq, Prod.mk.injEq] at h
  obtain ⟨rfl, rfl⟩ := h
  go_enter Tryd.func17, Tryd.ntmps17
  go_wp2_with (first
   | (go_at_call 29; refine (spec_buRead.calls k a0 gw gh gc false _ HRD.out).mono ?_; rintro e w1 ⟨v1, rfl, ho1, hb1⟩; obtain ⟨A1, c1, rfl⟩ := Kd.R_slice ho1; (have HB1 := Aside0.mk hb1); clear ho1 hb1)
   | ((with_reducible refine gate_dst (N := 4) rfl ?_); refine box_event ?hg (N := 4) ?hd (cs := #[.int .i64 0, .int .i64 0, .slice none 0 0]) (t := 40) ?hr ?_; (case hd => rfl); (case hg => rfl); (case hr => first | (go_simp; done) | (go_simp; rfl)); intro gb hg w2 hbox hb; (have HG := Aside0.mk (show w.heap.size ≤ gb by rw [hg]; exact HB1.out.size)); (have HB2 := Aside0.mk (below_then HB1.out HB1.out.size hb)); (have HU := Aside0.mk hbox); (have y0 := (blk_cell HU.out 0).trans rfl); (have y1 := (blk_cell HU.out 1).trans rfl); (have y2 := (blk_cell HU.out 2).trans rfl); (have f0 := blk_frozen HU.out 0); (have f1 := blk_frozen HU.out 1); (have f2 := blk_frozen HU.out 2); clear hbox hb hg HB1))
  go_ret2
  exact ⟨_, rfl, Kd.R_nil _ _ _ _ _, below_set (below_set (below_set HB2.out HG.out) HG.out) HG.out⟩
 | true =>
  rw [if_pos rfl] at h
  obtain ⟨L, hL, h⟩ := Option.bind_eq_some_iff.1 h
  split at h
  case isFalse => cases h
  rename_i h10
  split at h
  case isFalse => cases h
  split at h
  case isFalse => cases h
  rename_i _ hsz
  obtain ⟨P, hP⟩ : ∃ P : Nat, P = 2 ^ L.length := ⟨_, rfl⟩
  have hpw := pow_wrap L.length h10
  have hsh : shl .i64 1 (L.length : Int) = (P : Int) := by
   unfold shl
   rw [Int.toNat_natCast, Int.one_mul, i64_w, hP]
   exact hpw
  rw [← hP] at hpw
  have HPW := Aside0.mk hpw
  rw [hsh, Int.toNat_natCast] at h
  have HP := Aside0.mk (show P ≤ 1024 from by rw [hP]; exact Nat.pow_le_pow_right (by decide) h10)
  have HLL := Aside0.mk hL
  have H10 := Aside0.mk h10
  have HQ0 := Aside0.mk h
  clear hL h10 hsz h hsh hP
  go_enter Tryd.func17, Tryd.ntmps17
  go_wp2_with (first
   | (go_at_call 29; refine (spec_buRead.calls k a0 gw gh gc true _ HRD.out).mono ?_; rintro e w1 ⟨v1, rfl, ho1, hb1⟩; obtain ⟨A1, c1, rfl⟩ := Kd.R_slice ho1; (have HB1 := Aside0.mk hb1); (have HO1 := Aside0.mk ho1); clear ho1 hb1)
   | ((with_reducible refine gate_dst (N := 4) rfl ?_); refine box_event ?hg (N := 4) ?hd (cs := #[.int .i64 0, .int .i64 0, .slice none 0 0]) (t := 40) ?hr ?_; (case hd => rfl); (case hg => rfl); (case hr => first | (go_simp; done) | (go_simp; rfl)); intro gb hg w2 hbox hb; (have HG := Aside0.mk (show w.heap.size ≤ gb by rw [hg]; exact HB1.out.size)); (have HB2 := Aside0.mk (below_then HB1.out HB1.out.size hb)); (have HO2 := Aside0.mk (Kd.R_below HO1.out hb)); (have HU := Aside0.mk hbox); (have y0 := (blk_cell HU.out 0).trans rfl); (have y1 := (blk_cell HU.out 1).trans rfl); (have y2 := (blk_cell HU.out 2).trans rfl); (have f0 := blk_frozen HU.out 0); (have f1 := blk_frozen HU.out 1); (have f2 := blk_frozen HU.out 2); clear hbox hb hg HB1 HO1)
   | ((with_reducible refine gate_store (t := 40) (p := 4) rfl ?_); refine store_event (t := 40) (p := 4) (v := ?vo) (w1 := (((w2.setCell ⟨gb, 0, none⟩ (.int .i64 gw)).setCell ⟨gb, 1, none⟩ (.int .i64 gh)).setCell ⟨gb, 2, none⟩ (.slice A1 gc.length c1))) ?hg ?ho ?hn ?hr ?_; (case ho => rfl); (case hg => rfl); (case hn => rfl); (case hr => first | (go_simp; done) | (go_simp; rfl)); intro w3 hw; (have HB3 := Aside0.mk (show Below w.heap.size w w3 by rw [hw]; exact below_set (below_set (below_set HB2.out HG.out) HG.out) HG.out)); (have HX3 := Aside0.mk (show w3.heap[gb]? = some (.cells #[.int .i64 gw, .int .i64 gh, .slice A1 gc.length c1] 40 (0, 0)) by rw [hw]; refine blk_put (cs := #[.int .i64 gw, .int .i64 gh, .slice none 0 0]) ?_ 2 _ rfl; refine blk_put (cs := #[.int .i64 gw, .int .i64 0, .slice none 0 0]) ?_ 1 _ rfl; refine blk_put (cs := #[.int .i64 0, .int .i64 0, .slice none 0 0]) ?_ 0 _ rfl; exact HU.out)); (have HO3 := Aside0.mk (show Kd.R (Kd.int .u8) 5 w3 w.heap.size (fun _ => True) (.slice A1 gc.length c1) gc by rw [hw]; exact Kd.R_mono (Kd.R_far (p := ⟨gb, 2, none⟩) (Kd.R_far (p := ⟨gb, 1, none⟩) (Kd.R_far (p := ⟨gb, 0, none⟩) (Kd.R_types HO2.out HU.out (by decide)) (fun _ hk => hk.2) (.int .i64 gw)) (fun _ hk => hk.2) (.int .i64 gh)) (fun _ hk => hk.2) (.slice A1 gc.length c1)) (fun _ _ => trivial))); clear hw HU HO2 HB2 y0 y1 y2 f0 f1 f2; (have y0 := (blk_cell HX3.out 0).trans rfl); (have y1 := (blk_cell HX3.out 1).trans rfl); (have y2 := (blk_cell HX3.out 2).trans rfl))
   | (go_at_call 34; refine (spec_tyBalls.calls k gw gh A1 c1 gc L _ (Kd.R_reads' HO3.out).2.2 (Kd.R_reads' HO3.out).2.1 HLL.out).mono ?_; rintro e w4 ⟨v4, rfl, ho4, hb4⟩; obtain ⟨AL, cL, rfl⟩ := Kd.R_slice ho4; (have HX4 := Aside0.mk (blk_below HX3.out hb4)); (have HO4 := Aside0.mk (Kd.R_below HO3.out hb4)); (have HL4 := Aside0.mk (Kd.R_lower ho4 HB3.out.size)); (have HB4 := Aside0.mk (below_then HB3.out HB3.out.size hb4)); clear ho4 hb4 HX3 HO3 HB3 y0 y1 y2)
   | ((with_reducible refine gate_dst (N := 28) rfl ?_); refine Kd.R_make (Kd.int .i64) w4.heap.size 3 rfl (N := 28) rfl 31 _ _ rfl (wrap64 (2 ^ min L.length 64)) rfl rfl Tryd.underlying31 (.int .i64 0) 8 info3 rfl (by decide) (by omega) 0 (ok := fun _ => True) (okp := fun _ => True) rfl (fun _ hk => hk) trivial (by rw [HPW.out]; exact Int.natCast_nonneg _) (by rw [HPW.out, Int.toNat_natCast]; have := HP.out; omega) (Below.refl _ _) (Nat.le_refl _) ?_; intro u5 w5 ho5 hb5 hg5 hn5; (rw [HPW.out, Int.toNat_natCast] at ho5); (have HE5 := Aside0.mk (show FS w w5 gb gw gh A1 c1 gc AL cL L u5 (List.replicate P 0) (.slice none 0 0) [] from ⟨below_then HB4.out HB4.out.size hb5, blk_below HX4.out hb5, Kd.V_mono (Kd.R_V (Kd.R_elder' HO4.out (Kd.R_base ho5) hb5)) (fun k_ hk => ⟨hk.2, by simp [Value.ownBlock]⟩), Kd.V_mono (Kd.R_V (Kd.R_elder' HL4.out (Kd.R_base ho5) hb5)) (fun k_ hk => ⟨hk.2, by simp [Value.ownBlock]⟩), Kd.R_tight rfl (Kd.R_lower ho5 HB4.out.size), Kd.R_nil _ _ _ _ _⟩)); clear ho5 hb5 hg5 hn5 HX4 HO4 HL4 HB4))
  go_loopg [8, 9] k (fun kq v8 v9 wr => ∃ (M out : List Int) (x9 : Int), v9 = .int .i64 x9 ∧ Aside0 (spec_FirstOrder.l0 kq L M out x9 gw gh gc = some (r1, r2)) ∧ Aside0 (FS w wr gb gw gh A1 c1 gc AL cL L u5 M v8 out))
  case atStart => exact ⟨_, [], 0, rfl, HQ0, HE5⟩
  case round =>
   clear HQ0 HE5
   obtain ⟨M, out, x9, rfl, HQ, HE⟩ := hrel
   obtain ⟨A8, c8, e8⟩ := Kd.R_slice HE.out.out
   subst e8
   have hq := HQ.out
   cases gk with
   | zero => cases hq
   | succ k1 =>
    rw [spec_FirstOrder.l0] at hq
    by_cases hlt : out.length < L.length
    ·have e1 : decide (out.length < L.length) = true := decide_eq_true hlt
     rw [if_pos (by omega)] at hq
     obtain ⟨⟨nw, nh, ncs⟩, hem, hq⟩ := Option.bind_eq_some_iff.1 hq
     have HEM := Aside0.mk hem
     have HQ1 := Aside0.mk (show spec_FirstOrder.l1 k1 L M out x9 false out (out.length : Int) 0 gw gh gc nw nh ncs = some (r1, r2) from hq)
     have HLT := Aside0.mk hlt
     clear hem hq HQ hlt
     have y0 := (blk_cell HE.out.box 0).trans rfl
     have y1 := (blk_cell HE.out.box 1).trans rfl
     go_wp2_with (first
      | (go_at_call 37; refine (spec_tyEmpty.calls k1 gw gh nw nh ncs _ HEM.out).mono ?_; rintro e w6 ⟨v6, rfl, ho6, hb6⟩; obtain ⟨A6, c6, rfl⟩ := Kd.R_slice ho6; (have HE6 := Aside0.mk (HE.out.step hb6)); (have HO6 := Aside0.mk ho6); (have HB6 := Aside0.mk hb6); clear ho6 hb6 y0 y1)
      | ((with_reducible refine gate_dst (N := 11) rfl ?_); refine box_event ?hg (N := 11) ?hd (cs := #[.int .i64 0, .int .i64 0, .slice none 0 0]) (t := 40) ?hr ?_; (case hd => rfl); (case hg => rfl); (case hr => first | (go_simp; done) | (go_simp; rfl)); intro gn hg w7 hbox hb; (have HG7 := Aside0.mk (show wr.heap.size ≤ gn by rw [hg]; exact HB6.out.size)); (have HB7 := Aside0.mk (below_then HB6.out HB6.out.size hb)); (have HO7 := Aside0.mk (Kd.R_below HO6.out hb)); (have HU := Aside0.mk hbox); (have y0 := (blk_cell HU.out 0).trans rfl); (have y1 := (blk_cell HU.out 1).trans rfl); (have y2 := (blk_cell HU.out 2).trans rfl); (have f0 := blk_frozen HU.out 0); (have f1 := blk_frozen HU.out 1); (have f2 := blk_frozen HU.out 2); clear hbox hb hg HB6 HO6 HE6))
     obtain ⟨w8, hw⟩ : ∃ w8, w8 = (((w7.setCell ⟨gn, 0, none⟩ (.int .i64 nw)).setCell ⟨gn, 1, none⟩ (.int .i64 nh)).setCell ⟨gn, 2, none⟩ (.slice A6 ncs.length c6)) := ⟨_, rfl⟩
     have HB8 := Aside0.mk (show Below wr.heap.size wr w8 by rw [hw]; exact below_set (below_set (below_set HB7.out HG7.out) HG7.out) HG7.out)
     have HX8 := Aside0.mk (show w8.heap[gn]? = some (.cells #[.int .i64 nw, .int .i64 nh, .slice A6 ncs.length c6] 40 (0, 0)) by rw [hw]; refine blk_put (cs := #[.int .i64 nw, .int .i64 nh, .slice none 0 0]) ?_ 2 _ rfl; refine blk_put (cs := #[.int .i64 nw, .int .i64 0, .slice none 0 0]) ?_ 1 _ rfl; refine blk_put (cs := #[.int .i64 0, .int .i64 0, .slice none 0 0]) ?_ 0 _ rfl; exact HU.out)
     have HO8 := Aside0.mk (show Kd.R (Kd.int .u8) 5 w8 wr.heap.size (fun _ => True) (.slice A6 ncs.length c6) ncs by rw [hw]; exact Kd.R_mono (Kd.R_far (p := ⟨gn, 2, none⟩) (Kd.R_far (p := ⟨gn, 1, none⟩) (Kd.R_far (p := ⟨gn, 0, none⟩) (Kd.R_types HO7.out HU.out (by decide)) (fun _ hk => hk.2) (.int .i64 nw)) (fun _ hk => hk.2) (.int .i64 nh)) (fun _ hk => hk.2) (.slice A6 ncs.length c6)) (fun _ _ => trivial))
     rw [← hw]
     clear hw HU HO7 HB7 y0 y1 y2 f0 f1 f2
     go_loopg [41] k1 (fun kq v41 w' => ∃ (t : Nat) (cs : List Int), v41 = .int .i64 (t : Int) ∧ Aside0 (kq ≤ k1) ∧ Aside0 (spec_FirstOrder.l1 kq L M out x9 false out (out.length : Int) (t : Int) gw gh gc nw nh cs = some (r1, r2)) ∧ Aside0 (Below wr.heap.size wr w') ∧ Aside0 (w'.heap[gn]? = some (.cells #[.int .i64 nw, .int .i64 nh, .slice A6 ncs.length c6] 40 (0, 0))) ∧ Aside0 (Kd.R (Kd.int .u8) 5 w' wr.heap.size (fun _ => True) (.slice A6 ncs.length c6) cs))
     case atStart => exact ⟨0, ncs, rfl, ⟨Nat.le_refl _⟩, HQ1, HB8, HX8, HO8⟩
     case round =>
      clear HQ1 HB8 HX8 HO8 e1
      obtain ⟨t, cs, rfl, HKQ, HQ, HB, HX, HO⟩ := hrel
      have hq := HQ.out
      cases gk with
      | zero => cases hq
      | succ k2 =>
       rw [spec_FirstOrder.l1] at hq
       have hE2 := HE.out.step HB.out
       by_cases ht : t < out.length
       ·have e1 : decide ((t : Int) < (out.length : Int)) = true := decide_eq_true (by omega)
        have p1 : (0 ≤ (t : Int)) = True := eq_true (by omega)
        have p2 : ((t : Int) < (out.length : Int)) = True := eq_true (by omega)
        rw [if_pos (by omega), if_pos (by omega), if_pos (by omega)] at hq
        split at hq
        case isFalse => cases hq
        rename_i ha0
        split at hq
        case isFalse => cases hq
        rename_i ha1
        obtain ⟨ad, ea, hx⟩ := Kd.at_int (Kd.R_reads' hE2.out).2.2 (t : Int) (by omega) (by omega)
        subst ea
        rw [Int.toNat_natCast] at hx
        have hlen : cs.length = ncs.length := (Kd.R_reads' HO.out).1.symm
        have p3 : (0 ≤ rd out (t : Int)) = True := eq_true ha0
        have p4 : (rd out (t : Int) < (ncs.length : Int)) = True := eq_true (by omega)
        obtain ⟨g6, cp6, e6, hg6, _⟩ := Kd.R_form HO.out (by omega)
        rw [hlen] at e6
        injection e6 with e61 e62 e63
        subst e61
        obtain ⟨z0, z1⟩ := Kd.R_celln 0 HO.out (rd out (t : Int)) ha0 (by omega)
        have y2 := (blk_cell HX.out 2).trans rfl
        have HS := Aside0.mk (show spec_FirstOrder.l1 k2 L M out x9 false out (out.length : Int) ((t + 1 : Nat) : Int) gw gh gc nw nh (cs.set (rd out (t : Int)).toNat 111) = some (r1, r2) from by rw [wrap1o t (by have := HLT.out; have := H10.out; omega)] at hq; exact hq)
        have HG6 := Aside0.mk hg6
        have HT6 := Aside0.mk (show t < 1000000 from by have := HLT.out; have := H10.out; omega)
        have hne : gn ≠ g6 := fun e => Kd.R_ne HO.out HX.out (by decide) (by rw [e]; rfl)
        have HNE := Aside0.mk hne
        clear hq HQ hE2 ht ha0 ha1 hlen e62 e63 hg6 hne
        generalize rd out (t : Int) = a at hx z0 z1 p3 p4 HS
        go_wp2_with fail
        go_roundg k2
        case measure => omega
        case rel => exact ⟨t + 1, cs.set a.toNat 111, by first | rfl | rw [wrap1o t HT6.out] | simp, ⟨by have := HKQ.out; omega⟩, HS, ⟨below_set HB.out HG6.out⟩, ⟨blk_far HX.out HNE.out _⟩, ⟨(Kd.R_putg HO.out a 111).1⟩⟩
       ·have e1 : decide ((t : Int) < (out.length : Int)) = false := decide_eq_false (by omega)
        have e2 : decide (t < out.length) = false := decide_eq_false ht
        rw [if_neg (by omega)] at hq
        have HV := Aside0.mk (show Kd.V (Kd.int .u8) 5 wr 0 (fun k => some k ≠ u5.ownBlock ∧ some k ≠ (Value.slice A8 out.length c8).ownBlock) (.slice A6 ncs.length c6) cs from Kd.V_mono (Kd.R_V (Kd.R_bound HO.out)) (fun k hk => ⟨fun e => by have h1 := Kd.R_lt HE.out.memo k e.symm; have h2 := hk.2.1; omega, fun e => by have h1 := Kd.R_lt HE.out.out k e.symm; have h2 := hk.2.1; omega⟩))
        have HQ2 := Aside0.mk (show spec_FirstOrder.l2 k2 L M out x9 false L (L.length : Int) ((0 : Nat) : Int) gw gh gc nw nh cs = some (r1, r2) from hq)
        have HE2 := Aside0.mk hE2
        have HK1 := Aside0.mk (show k2 < k1 from by have := HKQ.out; omega)
        clear hq HQ hE2 ht HO HB HE
        go_wp2_with fail
        clear e1 e2
        go_loopg [8, 9, 10, 52] k2 (fun kq v8 v9 v10 v52 w' => ∃ (i : Nat) (M out : List Int) (x9 : Int) (fd : Bool), v9 = .int .i64 x9 ∧ v10 = .bool fd ∧ v52 = .int .i64 (i : Int) ∧ Aside0 (kq ≤ k2) ∧ Aside0 (spec_FirstOrder.l2 kq L M out x9 fd L (L.length : Int) (i : Int) gw gh gc nw nh cs = some (r1, r2)) ∧ Aside0 (FS w w' gb gw gh A1 c1 gc AL cL L u5 M v8 out) ∧ Aside0 (w'.heap[gn]? = some (.cells #[.int .i64 nw, .int .i64 nh, .slice A6 ncs.length c6] 40 (0, 0))) ∧ Aside0 (Kd.V (Kd.int .u8) 5 w' 0 (fun k => some k ≠ u5.ownBlock ∧ some k ≠ v8.ownBlock) (.slice A6 ncs.length c6) cs))
        case atStart => exact ⟨0, M, out, x9, false, rfl, rfl, rfl, ⟨Nat.le_refl _⟩, HQ2, HE2, HX, HV⟩
        case round =>
         clear HQ2 HE2 HX HV HLT
         obtain ⟨i, M, out, x9, fd, rfl, rfl, rfl, HKQ2, HQ, HE, HX, HV⟩ := hrel
         obtain ⟨A8, c8, e8⟩ := Kd.R_slice HE.out.out
         subst e8
         have hq := HQ.out
         cases gk with
         | zero => cases hq
         | succ k3 =>
          rw [spec_FirstOrder.l2] at hq
          by_cases hlt : i < L.length
          ·have e1 : decide ((i : Int) < (L.length : Int)) = true := decide_eq_true (by omega)
           have p1 : (0 ≤ (i : Int)) = True := eq_true (by omega)
           have p2 : ((i : Int) < (L.length : Int)) = True := eq_true (by omega)
           rw [if_pos (by omega), if_pos (by omega), if_pos (by omega)] at hq
           obtain ⟨ad, ea, hx⟩ := Kd.at_int (Kd.V_reads' HE.out.list).2.2 (i : Int) (by omega) (by omega)
           subst ea
           rw [Int.toNat_natCast] at hx
           have HI6 := Aside0.mk (show i < 1000000 from by have := H10.out; omega)
           rw [wrap1o i HI6.out] at hq
           clear hlt HQ
           cases fd with
           | true =>
            rw [if_pos rfl] at hq
            have HQ3 := Aside0.mk hq
            clear hq
            go_wp2_with fail
            go_quiet (fail)
            go_wp2_with fail
            go_roundg k3
            case measure => omega
            case rel => exact ⟨i + 1, M, out, x9, true, rfl, rfl, by first | rfl | rw [wrap1o i HI6.out] | simp, ⟨by have := HKQ2.out; omega⟩, HQ3, ⟨HE.out.step (pw_below_drewN (Below.refl _ _) _)⟩, ⟨blk_below HX.out (pw_below_drewN (Below.refl _ _) _)⟩, ⟨Kd.V_below HV.out (pw_below_drewN (Below.refl _ _) _)⟩⟩
           | false =>
            rw [if_neg Bool.false_ne_true] at hq
            by_cases hbit : Int.tmod (shr .i64 x9 (i : Int)) 2 = 1
            ·rw [if_pos hbit] at hq
             have hb : (Int.tmod (x9 / 2 ^ min i 64) 2 == 1) = true := by rw [← sh_bit, hbit]; rfl
             have HQ3 := Aside0.mk hq
             clear hq hbit
             go_wp2_with fail
             go_quiet (fail)
             go_wp2_with fail
             go_roundg k3
             case measure => omega
             case rel => exact ⟨i + 1, M, out, x9, false, rfl, rfl, by first | rfl | rw [wrap1o i HI6.out] | simp, ⟨by have := HKQ2.out; omega⟩, HQ3, ⟨HE.out.step (pw_below_drewN (Below.refl _ _) _)⟩, ⟨blk_below HX.out (pw_below_drewN (Below.refl _ _) _)⟩, ⟨Kd.V_below HV.out (pw_below_drewN (Below.refl _ _) _)⟩⟩
            ·rw [if_neg hbit] at hq
             have hb : (Int.tmod (x9 / 2 ^ min i 64) 2 == 1) = false := by rw [← sh_bit]; exact beq_false_of_ne hbit
             obtain ⟨T, hT⟩ : ∃ T, wrap64 (x9 + shl .i64 1 (i : Int)) = T := ⟨_, rfl⟩
             have hTa : wrap64 (x9 + wrap64 (2 ^ min i 64)) = T := by rw [← sh_add]; exact hT
             have hTb : IntKind.i64.wrap (x9 + IntKind.i64.wrap (2 ^ min i 64)) = T := by rw [i64_w, i64_w]; exact hTa
             rw [hT] at hq
             have y0 := (blk_cell HX.out 0).trans rfl
             have y1 := (blk_cell HX.out 1).trans rfl
             have y2 := (blk_cell HX.out 2).trans rfl
             have z0 := (blk_cell HE.out.box 0).trans rfl
             have z1 := (blk_cell HE.out.box 1).trans rfl
             have z2 := (blk_cell HE.out.box 2).trans rfl
             clear hbit hT
             have hcl : cs.length = ncs.length := (Kd.V_reads' HV.out).1.symm
             have HXc := Aside0.mk (show wr.heap[gn]? = some (.cells #[.int .i64 nw, .int .i64 nh, .slice A6 cs.length c6] 40 (0, 0)) by rw [hcl]; exact HX.out)
             have HVc := Aside0.mk (show Kd.V (Kd.int .u8) 5 wr 0 (fun k => some k ≠ u5.ownBlock ∧ some k ≠ (Value.slice A8 out.length c8).ownBlock) (.slice A6 cs.length c6) cs by rw [hcl]; exact HV.out)
             have HCL := Aside0.mk hcl
             clear y0 y1 y2 z0 z1 z2 hcl
             by_cases hol : (out.length : Int) > 0
             ·rw [if_pos hol] at hq
              have c0 : decide (0 < out.length) = true := decide_eq_true (by omega)
              have c1' : decide ((out.length : Int) > 0) = true := decide_eq_true hol
              obtain ⟨rr, hway, hq⟩ := Option.bind_eq_some_iff.1 hq
              have HWAY := Aside0.mk hway
              clear hway hol
              go_wp2_with fail
              have HE1 := Aside0.mk (HE.out.step (below_drew (Below.refl _ _)))
              have HX1 := Aside0.mk (blk_below HXc.out (below_drew (Below.refl _ _)))
              have HV1 := Aside0.mk (Kd.V_below HVc.out (below_drew (Below.refl _ _)))
              clear HE HX HV HXc HVc
              refine start_ (n := 29) (S := fun w' => w'.cell? ⟨gn, 0, none⟩ = some (.int .i64 nw) ∧ w'.cell? ⟨gn, 1, none⟩ = some (.int .i64 nh) ∧ w'.cell? ⟨gn, 2, none⟩ = some (.slice A6 cs.length c6) ∧ w'.cell? ⟨gb, 0, none⟩ = some (.int .i64 gw) ∧ w'.cell? ⟨gb, 1, none⟩ = some (.int .i64 gh) ∧ w'.cell? ⟨gb, 2, none⟩ = some (.slice A1 gc.length c1)) (ds := []) (spec_FirstOrder.D 0) (by kernel_rfl) rfl (by kernel_rfl) ⟨(blk_cell HX1.out 0).trans rfl, (blk_cell HX1.out 1).trans rfl, (blk_cell HX1.out 2).trans rfl, (blk_cell HE1.out.box 0).trans rfl, (blk_cell HE1.out.box 1).trans rfl, (blk_cell HE1.out.box 2).trans rfl⟩ (fun hS => ?_)
              refine with_tabW spec_FirstOrder.tab19 spec_FirstOrder.bits19 (fun HT HW => ?_)
              generalize wr.drew = w1 at HE1 HX1 HV1 hS ⊢
              refine pure_ (i := 0) (N := some 57) (v := ?_) (a' := ?_) (spec_FirstOrder.D 1) rfl rfl (any_of HT.out (by kernel_rfl)) (fun _ _ _ h => h) (Or.inl ⟨by rfl, ?_⟩) ?_ ?_
              rotate_left
              ·intro w'; go_simp; with_reducible rfl
              rotate_left
              ·simp only [Act.put, List.setIfInBounds_toArray, List.set_cons_zero, List.set_cons_succ, i64_w]; rfl
              refine pure_ (i := 1) (N := some 58) (v := ?_) (a' := ?_) (spec_FirstOrder.D 3) rfl rfl (any_of HT.out (by kernel_rfl)) (fun _ _ _ h => h) (Or.inl ⟨by rfl, ?_⟩) ?_ ?_
              rotate_left
              ·intro w'; go_simp; with_reducible rfl
              rotate_left
              ·simp only [Act.put, List.setIfInBounds_toArray, List.set_cons_zero, List.set_cons_succ, i64_w]; rfl
              refine pure_ (i := 2) (N := some 59) (v := ?_) (a' := ?_) (spec_FirstOrder.D 7) rfl rfl (any_of HT.out (by kernel_rfl)) (fun _ _ _ h => h) (Or.inl ⟨by rfl, ?_⟩) ?_ ?_
              rotate_left
              ·intro w'; go_simp; with_reducible rfl
              rotate_left
              ·simp only [Act.put, List.setIfInBounds_toArray, List.set_cons_zero, List.set_cons_succ, i64_w]; rfl
              refine pure_ (i := 3) (N := some 60) (v := ?_) (a' := ?_) (spec_FirstOrder.D 15) rfl rfl (any_of HT.out (by kernel_rfl)) (fun _ _ _ h => h) (Or.inl ⟨by rfl, ?_⟩) ?_ ?_
              rotate_left
              ·intro w'; go_simp; with_reducible rfl
              rotate_left
              ·simp only [Act.put, List.setIfInBounds_toArray, List.set_cons_zero, List.set_cons_succ, i64_w]; rfl
              refine pure_ (i := 4) (N := some 61) (v := ?_) (a' := ?_) (spec_FirstOrder.D 31) rfl rfl (any_of HT.out (by kernel_rfl)) (fun _ _ _ h => h) (Or.inl ⟨by rfl, ?_⟩) ?_ ?_
              rotate_left
              ·intro w'; go_simp; with_reducible rfl
              rotate_left
              ·simp only [Act.put, List.setIfInBounds_toArray, List.set_cons_zero, List.set_cons_succ, i64_w]; rfl
              refine pure_ (i := 5) (N := some 62) (v := ?_) (a' := ?_) (spec_FirstOrder.D 63) rfl rfl (any_of HT.out (by kernel_rfl)) (fun _ _ _ h => h) (Or.inl ⟨by rfl, ?_⟩) ?_ ?_
              rotate_left
              ·intro w'; go_simp; with_reducible rfl
              rotate_left
              ·simp only [Act.put, List.setIfInBounds_toArray, List.set_cons_zero, List.set_cons_succ, i64_w]; rfl
              refine pure_ (i := 6) (N := some 63) (v := ?_) (a' := ?_) (spec_FirstOrder.D 127) rfl rfl (any_of HT.out (by kernel_rfl)) (fun _ _ _ h => h) (Or.inl ⟨by rfl, ?_⟩) ?_ ?_
              rotate_left
              ·intro w'; go_simp; with_reducible rfl
              rotate_left
              ·simp only [Act.put, List.setIfInBounds_toArray, List.set_cons_zero, List.set_cons_succ, i64_w]; rfl
              refine pure_ (i := 7) (N := some 64) (v := ?_) (a' := ?_) (spec_FirstOrder.D 255) rfl rfl (any_of HT.out (by kernel_rfl)) (fun _ _ _ h => h) (Or.inl ⟨by rfl, ?_⟩) ?_ ?_
              rotate_left
              ·intro w'; go_simp; with_reducible rfl
              rotate_left
              ·simp only [Act.put, List.setIfInBounds_toArray, List.set_cons_zero, List.set_cons_succ, i64_w]; rfl
              refine pure_ (i := 8) (N := some 65) (v := ?_) (a' := ?_) (spec_FirstOrder.D 511) rfl rfl (any_of HT.out (by kernel_rfl)) (fun _ _ _ h => h) (Or.inl ⟨by rfl, ?_⟩) ?_ ?_
              rotate_left
              ·intro w'; go_simp; with_reducible rfl
              rotate_left
              ·simp only [Act.put, List.setIfInBounds_toArray, List.set_cons_zero, List.set_cons_succ, i64_w]; rfl
              refine pure_ (i := 9) (N := some 66) (v := ?_) (a' := ?_) (spec_FirstOrder.D 1023) rfl rfl (any_of HT.out (by kernel_rfl)) (fun _ _ _ h => h) (Or.inl ⟨by rfl, ?_⟩) ?_ ?_
              rotate_left
              ·intro w'; go_simp; with_reducible rfl
              rotate_left
              ·simp only [Act.put, List.setIfInBounds_toArray, List.set_cons_zero, List.set_cons_succ, i64_w]; rfl
              refine pure_ (i := 10) (N := some 67) (v := ?_) (a' := ?_) (spec_FirstOrder.D 2047) rfl rfl (any_of HT.out (by kernel_rfl)) (fun _ _ _ h => h) (Or.inl ⟨by rfl, ?_⟩) ?_ ?_
              rotate_left
              ·intro w'; go_simp; with_reducible rfl
              rotate_left
              ·simp only [Act.put, List.setIfInBounds_toArray, List.set_cons_zero, List.set_cons_succ, i64_w]; rfl
              refine pure_ (i := 11) (N := some 68) (v := ?_) (a' := ?_) (spec_FirstOrder.D 4095) rfl rfl (any_of HT.out (by kernel_rfl)) (fun _ _ _ h => h) (Or.inl ⟨by rfl, ?_⟩) ?_ ?_
              rotate_left
              ·intro w'; go_simp; with_reducible rfl
              rotate_left
              ·simp only [Act.put, List.setIfInBounds_toArray, List.set_cons_zero, List.set_cons_succ, i64_w]; rfl
              refine pure_ (i := 12) (N := some 69) (v := ?_) (a' := ?_) (spec_FirstOrder.D 8191) rfl rfl (any_of HT.out (by kernel_rfl)) (fun _ _ _ h => h) (Or.inl ⟨by rfl, ?_⟩) ?_ ?_
              rotate_left
              ·intro w'; go_simp; with_reducible rfl
              rotate_left
              ·simp only [Act.put, List.setIfInBounds_toArray, List.set_cons_zero, List.set_cons_succ, i64_w]; rfl
              refine pure_ (i := 14) (N := some 71) (v := ?_) (a' := ?_) (spec_FirstOrder.D 24575) rfl rfl (any_of HT.out (by kernel_rfl)) (fun _ _ _ h => h) (Or.inl ⟨by rfl, ?_⟩) ?_ ?_
              rotate_left
              ·intro w'; go_simp; with_reducible rfl
              rotate_left
              ·simp only [Act.put, List.setIfInBounds_toArray, List.set_cons_zero, List.set_cons_succ, i64_w]; rfl
              refine take_ (i := 13) (N := some 70) (v := ?_) (a' := ?_) (spec_FirstOrder.D 32767) rfl rfl (take_ofW HT.out HW.out (by kernel_rfl)) (fun _ _ _ h => h) (Or.inl ⟨by rfl, ?_⟩) hS ?_ ?_
              rotate_left
              ·rintro w' ⟨s0, s1, s2, s3, s4, s5⟩; go_simp; with_reducible rfl
              rotate_left
              ·simp only [Act.put, List.setIfInBounds_toArray, List.set_cons_zero, List.set_cons_succ, i64_w]; rfl
              refine one_ (i := 15) (N := some 72) (spec_FirstOrder.D 65535) rfl rfl (one_of HT.out (by kernel_rfl)) (by decide) (fun K hK => ?_)
              refine goes_ Tryd.func38 (by kernel_rfl) rfl #[.agg #[.int .i64 nw, .int .i64 nh, .slice A6 cs.length c6], .int .i64 (rd L (i : Int))] (by rfl) rfl rfl (by (try simp only [List.map_toArray, List.map_cons, List.map_nil]); first | done | rfl) ?_
              refine (spec_buWay.calls k3 nw nh A6 c6 cs (rd L (i : Int)) rr _ (Kd.V_reads' HV1.out).2.2 (Kd.V_reads' HV1.out).2.1 HWAY.out).mono ?_
              rintro e w2 ⟨rfl, hb2⟩
              refine ⟨_, rfl, ?_⟩
              have HE2 := Aside0.mk (HE1.out.step hb2)
              have HX2 := Aside0.mk (blk_below HX1.out hb2)
              have HV2 := Aside0.mk (Kd.V_below HV1.out hb2)
              clear hb2 HE1 HX1 HV1 hS
              refine hK.out _ _ ⟨(blk_cell HX2.out 0).trans rfl, (blk_cell HX2.out 1).trans rfl, (blk_cell HX2.out 2).trans rfl, (blk_cell HE2.out.box 0).trans rfl, (blk_cell HE2.out.box 1).trans rfl, (blk_cell HE2.out.box 2).trans rfl⟩ (fun hS => ?_)
              clear hK K
              refine norm_ (a' := ?_) ?_ ?_
              rotate_left
              ·show Act.put _ (some 72) _ = _; simp only [Act.put, List.setIfInBounds_toArray, List.set_cons_zero, List.set_cons_succ, i64_w]; rfl
              by_cases hrr : rr < 0
              ·rw [if_pos hrr] at hq
               have d0 : decide (rr < 0) = true := decide_eq_true hrr
               have HQ3 := Aside0.mk hq
               clear hq hrr
               refine pure_ (i := 16) (N := some 73) (v := ?_) (a' := ?_) (spec_FirstOrder.D 131071) rfl rfl (any_of HT.out (by kernel_rfl)) (fun _ _ _ h => h) (Or.inl ⟨by rfl, ?_⟩) ?_ ?_
               rotate_left
               ·intro w'; go_simp; with_reducible rfl
               rotate_left
               ·simp only [Act.put, List.setIfInBounds_toArray, List.set_cons_zero, List.set_cons_succ, i64_w]; rfl
               refine pure_ (i := 17) (N := some 74) (v := ?_) (a' := ?_) (spec_FirstOrder.D 262143) rfl rfl (any_of HT.out (by kernel_rfl)) (fun _ _ _ h => h) (Or.inl ⟨by rfl, ?_⟩) ?_ ?_
               rotate_left
               ·intro w'; go_simp; with_reducible rfl
               rotate_left
               ·simp only [Act.put, List.setIfInBounds_toArray, List.set_cons_zero, List.set_cons_succ, i64_w]; rfl
               refine pure_ (i := 18) (N := some 75) (v := ?_) (a' := ?_) (spec_FirstOrder.D 524287) rfl rfl (any_of HT.out (by kernel_rfl)) (fun _ _ _ h => h) (Or.inl ⟨by rfl, ?_⟩) ?_ ?_
               rotate_left
               ·intro w'; go_simp; with_reducible rfl
               rotate_left
               ·simp only [Act.put, List.setIfInBounds_toArray, List.set_cons_zero, List.set_cons_succ, i64_w]; rfl
               refine pure_ (i := 19) (N := some 76) (v := ?_) (a' := ?_) (spec_FirstOrder.D 1048575) rfl rfl (any_of HT.out (by kernel_rfl)) (fun _ _ _ h => h) (Or.inl ⟨by rfl, ?_⟩) ?_ ?_
               rotate_left
               ·intro w'; go_simp; with_reducible rfl
               rotate_left
               ·simp only [Act.put, List.setIfInBounds_toArray, List.set_cons_zero, List.set_cons_succ, i64_w]; rfl
               refine pure_ (i := 20) (N := some 77) (v := undef) (a' := ?_) (spec_FirstOrder.D 2097151) rfl rfl (any_of HT.out (by kernel_rfl)) (fun _ _ _ h => h) (Or.inr ⟨by rfl, rfl⟩) ?_ ?_
               rotate_left
               ·simp only [Act.put, List.setIfInBounds_toArray, List.set_cons_zero, List.set_cons_succ, i64_w]; rfl
               refine pure_ (i := 21) (N := some 78) (v := undef) (a' := ?_) (spec_FirstOrder.D 4194303) rfl rfl (any_of HT.out (by kernel_rfl)) (fun _ _ _ h => h) (Or.inr ⟨by rfl, rfl⟩) ?_ ?_
               rotate_left
               ·simp only [Act.put, List.setIfInBounds_toArray, List.set_cons_zero, List.set_cons_succ, i64_w]; rfl
               refine pure_ (i := 22) (N := some 79) (v := undef) (a' := ?_) (spec_FirstOrder.D 8388607) rfl rfl (any_of HT.out (by kernel_rfl)) (fun _ _ _ h => h) (Or.inr ⟨by rfl, rfl⟩) ?_ ?_
               rotate_left
               ·simp only [Act.put, List.setIfInBounds_toArray, List.set_cons_zero, List.set_cons_succ, i64_w]; rfl
               refine pure_ (i := 23) (N := some 80) (v := undef) (a' := ?_) (spec_FirstOrder.D 16777215) rfl rfl (any_of HT.out (by kernel_rfl)) (fun _ _ _ h => h) (Or.inr ⟨by rfl, rfl⟩) ?_ ?_
               rotate_left
               ·simp only [Act.put, List.setIfInBounds_toArray, List.set_cons_zero, List.set_cons_succ, i64_w]; rfl
               refine pure_ (i := 24) (N := some 81) (v := undef) (a' := ?_) (spec_FirstOrder.D 33554431) rfl rfl (any_of HT.out (by kernel_rfl)) (fun _ _ _ h => h) (Or.inr ⟨by rfl, rfl⟩) ?_ ?_
               rotate_left
               ·simp only [Act.put, List.setIfInBounds_toArray, List.set_cons_zero, List.set_cons_succ, i64_w]; rfl
               refine pure_ (i := 25) (N := some 82) (v := undef) (a' := ?_) (spec_FirstOrder.D 67108863) rfl rfl (any_of HT.out (by kernel_rfl)) (fun _ _ _ h => h) (Or.inr ⟨by rfl, rfl⟩) ?_ ?_
               rotate_left
               ·simp only [Act.put, List.setIfInBounds_toArray, List.set_cons_zero, List.set_cons_succ, i64_w]; rfl
               refine pure_ (i := 26) (N := some 83) (v := undef) (a' := ?_) (spec_FirstOrder.D 134217727) rfl rfl (any_of HT.out (by kernel_rfl)) (fun _ _ _ h => h) (Or.inr ⟨by rfl, rfl⟩) ?_ ?_
               rotate_left
               ·simp only [Act.put, List.setIfInBounds_toArray, List.set_cons_zero, List.set_cons_succ, i64_w]; rfl
               refine pure_ (i := 27) (N := some 84) (v := undef) (a' := ?_) (spec_FirstOrder.D 268435455) rfl rfl (any_of HT.out (by kernel_rfl)) (fun _ _ _ h => h) (Or.inr ⟨by rfl, rfl⟩) ?_ ?_
               rotate_left
               ·simp only [Act.put, List.setIfInBounds_toArray, List.set_cons_zero, List.set_cons_succ, i64_w]; rfl
               refine pure_ (i := 28) (N := some 85) (v := ?_) (a' := ?_) (spec_FirstOrder.D 536870911) rfl rfl (any_of HT.out (by kernel_rfl)) (fun _ _ _ h => h) (Or.inl ⟨by rfl, ?_⟩) ?_ ?_
               rotate_left
               ·intro w'; go_simp; with_reducible rfl
               rotate_left
               ·simp only [Act.put, List.setIfInBounds_toArray, List.set_cons_zero, List.set_cons_succ, i64_w]; rfl
               refine done_ (done_of HT.out (by kernel_rfl)) ?_
               clear hS HT HW
               go_wp2_with fail
               go_roundg k3
               case measure => omega
               case rel => exact ⟨i + 1, M, out, x9, false, by first | rfl | (simp only [hTa]), rfl, by first | rfl | rw [wrap1o i HI6.out] | simp, ⟨by have := HKQ2.out; omega⟩, HQ3, HE2, ⟨by rw [← HCL.out]; exact HX2.out⟩, ⟨by rw [← HCL.out]; exact HV2.out⟩⟩
              ·rw [if_neg hrr] at hq
               have d0 : decide (rr < 0) = false := decide_eq_false hrr
               clear hrr
               obtain ⟨⟨b, M3⟩, hgo, hq⟩ := Option.bind_eq_some_iff.1 hq
               have HGO := Aside0.mk hgo
               dsimp only at hq
               clear hgo
               refine pure_ (i := 16) (N := some 73) (v := ?_) (a' := ?_) (spec_FirstOrder.D 131071) rfl rfl (any_of HT.out (by kernel_rfl)) (fun _ _ _ h => h) (Or.inl ⟨by rfl, ?_⟩) ?_ ?_
               rotate_left
               ·intro w'; go_simp; with_reducible rfl
               rotate_left
               ·simp only [Act.put, List.setIfInBounds_toArray, List.set_cons_zero, List.set_cons_succ, i64_w]; rfl
               refine pure_ (i := 17) (N := some 74) (v := ?_) (a' := ?_) (spec_FirstOrder.D 262143) rfl rfl (any_of HT.out (by kernel_rfl)) (fun _ _ _ h => h) (Or.inl ⟨by rfl, ?_⟩) ?_ ?_
               rotate_left
               ·intro w'; go_simp; with_reducible rfl
               rotate_left
               ·simp only [Act.put, List.setIfInBounds_toArray, List.set_cons_zero, List.set_cons_succ, i64_w]; rfl
               refine pure_ (i := 18) (N := some 75) (v := ?_) (a' := ?_) (spec_FirstOrder.D 524287) rfl rfl (any_of HT.out (by kernel_rfl)) (fun _ _ _ h => h) (Or.inl ⟨by rfl, ?_⟩) ?_ ?_
               rotate_left
               ·intro w'; go_simp; with_reducible rfl
               rotate_left
               ·simp only [Act.put, List.setIfInBounds_toArray, List.set_cons_zero, List.set_cons_succ, i64_w]; rfl
               refine pure_ (i := 19) (N := some 76) (v := ?_) (a' := ?_) (spec_FirstOrder.D 1048575) rfl rfl (any_of HT.out (by kernel_rfl)) (fun _ _ _ h => h) (Or.inl ⟨by rfl, ?_⟩) ?_ ?_
               rotate_left
               ·intro w'; go_simp; with_reducible rfl
               rotate_left
               ·simp only [Act.put, List.setIfInBounds_toArray, List.set_cons_zero, List.set_cons_succ, i64_w]; rfl
               refine pure_ (i := 21) (N := some 78) (v := ?_) (a' := ?_) (spec_FirstOrder.D 3145727) rfl rfl (any_of HT.out (by kernel_rfl)) (fun _ _ _ h => h) (Or.inl ⟨by rfl, ?_⟩) ?_ ?_
               rotate_left
               ·intro w'; go_simp; with_reducible rfl
               rotate_left
               ·simp only [Act.put, List.setIfInBounds_toArray, List.set_cons_zero, List.set_cons_succ, i64_w]; rfl
               refine pure_ (i := 22) (N := some 79) (v := ?_) (a' := ?_) (spec_FirstOrder.D 7340031) rfl rfl (any_of HT.out (by kernel_rfl)) (fun _ _ _ h => h) (Or.inl ⟨by rfl, ?_⟩) ?_ ?_
               rotate_left
               ·intro w'; go_simp; with_reducible rfl
               rotate_left
               ·simp only [Act.put, List.setIfInBounds_toArray, List.set_cons_zero, List.set_cons_succ, i64_w]; rfl
               refine pure_ (i := 23) (N := some 80) (v := ?_) (a' := ?_) (spec_FirstOrder.D 15728639) rfl rfl (any_of HT.out (by kernel_rfl)) (fun _ _ _ h => h) (Or.inl ⟨by rfl, ?_⟩) ?_ ?_
               rotate_left
               ·intro w'; go_simp; with_reducible rfl
               rotate_left
               ·simp only [Act.put, List.setIfInBounds_toArray, List.set_cons_zero, List.set_cons_succ, i64_w]; rfl
               refine pure_ (i := 24) (N := some 81) (v := ?_) (a' := ?_) (spec_FirstOrder.D 32505855) rfl rfl (any_of HT.out (by kernel_rfl)) (fun _ _ _ h => h) (Or.inl ⟨by rfl, ?_⟩) ?_ ?_
               rotate_left
               ·intro w'; go_simp; with_reducible rfl
               rotate_left
               ·simp only [Act.put, List.setIfInBounds_toArray, List.set_cons_zero, List.set_cons_succ, i64_w]; rfl
               refine pure_ (i := 25) (N := some 82) (v := ?_) (a' := ?_) (spec_FirstOrder.D 66060287) rfl rfl (any_of HT.out (by kernel_rfl)) (fun _ _ _ h => h) (Or.inl ⟨by rfl, ?_⟩) ?_ ?_
               rotate_left
               ·intro w'; go_simp; with_reducible rfl
               rotate_left
               ·simp only [Act.put, List.setIfInBounds_toArray, List.set_cons_zero, List.set_cons_succ, i64_w]; rfl
               refine take_ (i := 20) (N := some 77) (v := ?_) (a' := ?_) (spec_FirstOrder.D 67108863) rfl rfl (take_ofW HT.out HW.out (by kernel_rfl)) (fun _ _ _ h => h) (Or.inl ⟨by rfl, ?_⟩) hS ?_ ?_
               rotate_left
               ·rintro w' ⟨s0, s1, s2, s3, s4, s5⟩; go_simp; with_reducible rfl
               rotate_left
               ·simp only [Act.put, List.setIfInBounds_toArray, List.set_cons_zero, List.set_cons_succ, i64_w]; rfl
               refine one_ (i := 26) (N := some 83) (spec_FirstOrder.D 134217727) rfl rfl (one_of HT.out (by kernel_rfl)) (by decide) (fun K hK => ?_)
               refine goes_ Tryd.func39 (by kernel_rfl) rfl #[.agg #[.int .i64 gw, .int .i64 gh, .slice A1 gc.length c1], .int .i64 T, u5] (by rfl) rfl rfl (by (try simp only [List.map_toArray, List.map_cons, List.map_nil]); first | done | (simp only [hTa]; rfl) | rfl) ?_
               refine (spec_buGoes.calls k3 gw gh A1 c1 gc T (fun k => some k = u5.ownBlock) u5 M b M3 w _ HE2.out.below (fun W_ hk => HE2.out.cap hk) (Kd.V_reads' HE2.out.cells).2.1 HE2.out.memo HGO.out).mono ?_
               rintro e w9 ⟨rfl, hm9, hb9, hk9⟩
               refine ⟨_, rfl, ?_⟩
               have HE9 := Aside0.mk (HE2.out.next hk9 hb9 hm9)
               have HX9 := Aside0.mk (blk_kept HX2.out hk9 (Kd.R_ne HE2.out.memo HX2.out (by decide)))
               have HV9 := Aside0.mk (Kd.V_map (base' := 0) HV2.out fun _ hf => Kd.F_step hf fun k ho hlt => hk9.2 k hlt ho.1)
               clear hm9 hb9 hk9 HE2 HX2 HV2 hS
               refine hK.out _ _ ⟨(blk_cell HX9.out 0).trans rfl, (blk_cell HX9.out 1).trans rfl, (blk_cell HX9.out 2).trans rfl, (blk_cell HE9.out.box 0).trans rfl, (blk_cell HE9.out.box 1).trans rfl, (blk_cell HE9.out.box 2).trans rfl⟩ (fun hS => ?_)
               clear hK K
               refine norm_ (a' := ?_) ?_ ?_
               rotate_left
               ·show Act.put _ (some 83) _ = _; simp only [Act.put, List.setIfInBounds_toArray, List.set_cons_zero, List.set_cons_succ, i64_w]; rfl
               refine pure_ (i := 27) (N := some 84) (v := ?_) (a' := ?_) (spec_FirstOrder.D 268435455) rfl rfl (any_of HT.out (by kernel_rfl)) (fun _ _ _ h => h) (Or.inl ⟨by rfl, ?_⟩) ?_ ?_
               rotate_left
               ·intro w'; go_simp; with_reducible rfl
               rotate_left
               ·simp only [Act.put, List.setIfInBounds_toArray, List.set_cons_zero, List.set_cons_succ, i64_w]; rfl
               refine pure_ (i := 28) (N := some 85) (v := ?_) (a' := ?_) (spec_FirstOrder.D 536870911) rfl rfl (any_of HT.out (by kernel_rfl)) (fun _ _ _ h => h) (Or.inl ⟨by rfl, ?_⟩) ?_ ?_
               rotate_left
               ·intro w'; go_simp; with_reducible rfl
               rotate_left
               ·simp only [Act.put, List.setIfInBounds_toArray, List.set_cons_zero, List.set_cons_succ, i64_w]; rfl
               cases b with
               | false =>
                rw [if_neg Bool.false_ne_true] at hq
                have HQ3 := Aside0.mk hq
                clear hq
                refine done_ (done_of HT.out (by kernel_rfl)) ?_
                clear hS HT HW
                go_wp2_with fail
                go_roundg k3
                case measure => omega
                case rel => exact ⟨i + 1, M3, out, x9, false, by first | rfl | (simp only [hTa]), rfl, by first | rfl | rw [wrap1o i HI6.out] | simp, ⟨by have := HKQ2.out; omega⟩, HQ3, HE9, ⟨by rw [← HCL.out]; exact HX9.out⟩, ⟨by rw [← HCL.out]; exact HV9.out⟩⟩
               | true =>
                rw [if_pos rfl] at hq
                split at hq
                case isFalse => cases hq
                rename_i hol
                have HOL := Aside0.mk hol
                have HQ3 := Aside0.mk hq
                clear hq hol
                refine done_ (done_of HT.out (by kernel_rfl)) ?_
                clear hS HT HW
                go_wp2_with ((with_reducible refine gate_builtin (b := .append) (xs := #[.tmp 86, .tmp 88]) rfl ?_); at_builtin; refine Kd.R_append (Kd.int .i64) (w0 := w) w.heap.size rfl (.tmp 86) (.tmp 88) 31 3 (.int .i64 0) 8 rfl Tryd.underlying31 info3 rfl (by decide) (by omega) (.slice A8 out.length c8) out (rd L (i : Int)) [.int .i64 (rd L (i : Int))] (fun k => some k ≠ u5.ownBlock) (fun _ => False) rfl rfl ?aP (fun _ hk => hk.elim) ?aF ?aO ?aB ?aS ?aL ?_; (case aP => exact rfl); (case aB => exact HE9.out.below); (case aF => exact (fun k_ hk => Kd.fresh' (Kd.R_lt HE9.out.memo) k_ hk)); (case aO => exact HE9.out.out); (case aS => exact HE9.out.below.size); (case aL => have := HOL.out; omega); intro v7 w7 ho7 hb7 hg7 hat7; (have HE7 := Aside0.mk (HE9.out.more hg7 hat7 hb7 ho7)); (have HX7 := Aside0.mk (blk_grown HX9.out hg7 (Kd.R_ne HE9.out.out HX9.out (by decide)))); (have HV7 := Aside0.mk (Kd.V_after HV9.out hg7 hat7)); clear ho7 hb7 hg7 hat7 HE9 HX9 HV9)
                go_roundg k3
                case measure => omega
                case rel => exact ⟨i + 1, M3, (out ++ [rd L (i : Int)]), T, true, by first | rfl | (simp only [hTa]), rfl, by first | rfl | rw [wrap1o i HI6.out] | simp, ⟨by have := HKQ2.out; omega⟩, HQ3, HE7, ⟨by rw [← HCL.out]; exact HX7.out⟩, ⟨by rw [← HCL.out]; exact HV7.out⟩⟩
             ·rw [if_neg hol] at hq
              have c0 : decide (0 < out.length) = false := decide_eq_false (by omega)
              have c1' : decide ((out.length : Int) > 0) = false := decide_eq_false hol
              obtain ⟨⟨b, M3⟩, hgo, hq⟩ := Option.bind_eq_some_iff.1 hq
              have HGO := Aside0.mk hgo
              dsimp only at hq
              clear hgo hol
              go_wp2_with fail
              have HE1 := Aside0.mk (HE.out.step (below_drew (Below.refl _ _)))
              have HX1 := Aside0.mk (blk_below HXc.out (below_drew (Below.refl _ _)))
              have HV1 := Aside0.mk (Kd.V_below HVc.out (below_drew (Below.refl _ _)))
              clear HE HX HV HXc HVc
              refine start_ (n := 29) (S := fun w' => w'.cell? ⟨gb, 0, none⟩ = some (.int .i64 gw) ∧ w'.cell? ⟨gb, 1, none⟩ = some (.int .i64 gh) ∧ w'.cell? ⟨gb, 2, none⟩ = some (.slice A1 gc.length c1)) (ds := []) (spec_FirstOrder.D 0) (by kernel_rfl) rfl (by kernel_rfl) ⟨(blk_cell HE1.out.box 0).trans rfl, (blk_cell HE1.out.box 1).trans rfl, (blk_cell HE1.out.box 2).trans rfl⟩ (fun hS => ?_)
              refine with_tabW spec_FirstOrder.tab19 spec_FirstOrder.bits19 (fun HT HW => ?_)
              generalize wr.drew = w1 at HE1 HX1 HV1 hS ⊢
              refine pure_ (i := 0) (N := some 57) (v := ?_) (a' := ?_) (spec_FirstOrder.D 1) rfl rfl (any_of HT.out (by kernel_rfl)) (fun _ _ _ h => h) (Or.inl ⟨by rfl, ?_⟩) ?_ ?_
              rotate_left
              ·intro w'; go_simp; with_reducible rfl
              rotate_left
              ·simp only [Act.put, List.setIfInBounds_toArray, List.set_cons_zero, List.set_cons_succ, i64_w]; rfl
              refine pure_ (i := 1) (N := some 58) (v := ?_) (a' := ?_) (spec_FirstOrder.D 3) rfl rfl (any_of HT.out (by kernel_rfl)) (fun _ _ _ h => h) (Or.inl ⟨by rfl, ?_⟩) ?_ ?_
              rotate_left
              ·intro w'; go_simp; with_reducible rfl
              rotate_left
              ·simp only [Act.put, List.setIfInBounds_toArray, List.set_cons_zero, List.set_cons_succ, i64_w]; rfl
              refine pure_ (i := 2) (N := some 59) (v := ?_) (a' := ?_) (spec_FirstOrder.D 7) rfl rfl (any_of HT.out (by kernel_rfl)) (fun _ _ _ h => h) (Or.inl ⟨by rfl, ?_⟩) ?_ ?_
              rotate_left
              ·intro w'; go_simp; with_reducible rfl
              rotate_left
              ·simp only [Act.put, List.setIfInBounds_toArray, List.set_cons_zero, List.set_cons_succ, i64_w]; rfl
              refine pure_ (i := 3) (N := some 60) (v := ?_) (a' := ?_) (spec_FirstOrder.D 15) rfl rfl (any_of HT.out (by kernel_rfl)) (fun _ _ _ h => h) (Or.inl ⟨by rfl, ?_⟩) ?_ ?_
              rotate_left
              ·intro w'; go_simp; with_reducible rfl
              rotate_left
              ·simp only [Act.put, List.setIfInBounds_toArray, List.set_cons_zero, List.set_cons_succ, i64_w]; rfl
              refine pure_ (i := 4) (N := some 61) (v := ?_) (a' := ?_) (spec_FirstOrder.D 31) rfl rfl (any_of HT.out (by kernel_rfl)) (fun _ _ _ h => h) (Or.inl ⟨by rfl, ?_⟩) ?_ ?_
              rotate_left
              ·intro w'; go_simp; with_reducible rfl
              rotate_left
              ·simp only [Act.put, List.setIfInBounds_toArray, List.set_cons_zero, List.set_cons_succ, i64_w]; rfl
              refine pure_ (i := 5) (N := some 62) (v := ?_) (a' := ?_) (spec_FirstOrder.D 63) rfl rfl (any_of HT.out (by kernel_rfl)) (fun _ _ _ h => h) (Or.inl ⟨by rfl, ?_⟩) ?_ ?_
              rotate_left
              ·intro w'; go_simp; with_reducible rfl
              rotate_left
              ·simp only [Act.put, List.setIfInBounds_toArray, List.set_cons_zero, List.set_cons_succ, i64_w]; rfl
              refine pure_ (i := 6) (N := some 63) (v := ?_) (a' := ?_) (spec_FirstOrder.D 127) rfl rfl (any_of HT.out (by kernel_rfl)) (fun _ _ _ h => h) (Or.inl ⟨by rfl, ?_⟩) ?_ ?_
              rotate_left
              ·intro w'; go_simp; with_reducible rfl
              rotate_left
              ·simp only [Act.put, List.setIfInBounds_toArray, List.set_cons_zero, List.set_cons_succ, i64_w]; rfl
              refine pure_ (i := 7) (N := some 64) (v := ?_) (a' := ?_) (spec_FirstOrder.D 255) rfl rfl (any_of HT.out (by kernel_rfl)) (fun _ _ _ h => h) (Or.inl ⟨by rfl, ?_⟩) ?_ ?_
              rotate_left
              ·intro w'; go_simp; with_reducible rfl
              rotate_left
              ·simp only [Act.put, List.setIfInBounds_toArray, List.set_cons_zero, List.set_cons_succ, i64_w]; rfl
              refine pure_ (i := 8) (N := some 65) (v := ?_) (a' := ?_) (spec_FirstOrder.D 511) rfl rfl (any_of HT.out (by kernel_rfl)) (fun _ _ _ h => h) (Or.inl ⟨by rfl, ?_⟩) ?_ ?_
              rotate_left
              ·intro w'; go_simp; with_reducible rfl
              rotate_left
              ·simp only [Act.put, List.setIfInBounds_toArray, List.set_cons_zero, List.set_cons_succ, i64_w]; rfl
              refine pure_ (i := 9) (N := some 66) (v := ?_) (a' := ?_) (spec_FirstOrder.D 1023) rfl rfl (any_of HT.out (by kernel_rfl)) (fun _ _ _ h => h) (Or.inl ⟨by rfl, ?_⟩) ?_ ?_
              rotate_left
              ·intro w'; go_simp; with_reducible rfl
              rotate_left
              ·simp only [Act.put, List.setIfInBounds_toArray, List.set_cons_zero, List.set_cons_succ, i64_w]; rfl
              refine pure_ (i := 10) (N := some 67) (v := ?_) (a' := ?_) (spec_FirstOrder.D 2047) rfl rfl (any_of HT.out (by kernel_rfl)) (fun _ _ _ h => h) (Or.inl ⟨by rfl, ?_⟩) ?_ ?_
              rotate_left
              ·intro w'; go_simp; with_reducible rfl
              rotate_left
              ·simp only [Act.put, List.setIfInBounds_toArray, List.set_cons_zero, List.set_cons_succ, i64_w]; rfl
              refine pure_ (i := 11) (N := some 68) (v := ?_) (a' := ?_) (spec_FirstOrder.D 4095) rfl rfl (any_of HT.out (by kernel_rfl)) (fun _ _ _ h => h) (Or.inl ⟨by rfl, ?_⟩) ?_ ?_
              rotate_left
              ·intro w'; go_simp; with_reducible rfl
              rotate_left
              ·simp only [Act.put, List.setIfInBounds_toArray, List.set_cons_zero, List.set_cons_succ, i64_w]; rfl
              refine pure_ (i := 12) (N := some 69) (v := ?_) (a' := ?_) (spec_FirstOrder.D 8191) rfl rfl (any_of HT.out (by kernel_rfl)) (fun _ _ _ h => h) (Or.inl ⟨by rfl, ?_⟩) ?_ ?_
              rotate_left
              ·intro w'; go_simp; with_reducible rfl
              rotate_left
              ·simp only [Act.put, List.setIfInBounds_toArray, List.set_cons_zero, List.set_cons_succ, i64_w]; rfl
              refine pure_ (i := 13) (N := some 70) (v := undef) (a' := ?_) (spec_FirstOrder.D 16383) rfl rfl (any_of HT.out (by kernel_rfl)) (fun _ _ _ h => h) (Or.inr ⟨by rfl, rfl⟩) ?_ ?_
              rotate_left
              ·simp only [Act.put, List.setIfInBounds_toArray, List.set_cons_zero, List.set_cons_succ, i64_w]; rfl
              refine pure_ (i := 14) (N := some 71) (v := undef) (a' := ?_) (spec_FirstOrder.D 32767) rfl rfl (any_of HT.out (by kernel_rfl)) (fun _ _ _ h => h) (Or.inr ⟨by rfl, rfl⟩) ?_ ?_
              rotate_left
              ·simp only [Act.put, List.setIfInBounds_toArray, List.set_cons_zero, List.set_cons_succ, i64_w]; rfl
              refine pure_ (i := 15) (N := some 72) (v := undef) (a' := ?_) (spec_FirstOrder.D 65535) rfl rfl (any_of HT.out (by kernel_rfl)) (fun _ _ _ h => h) (Or.inr ⟨by rfl, rfl⟩) ?_ ?_
              rotate_left
              ·simp only [Act.put, List.setIfInBounds_toArray, List.set_cons_zero, List.set_cons_succ, i64_w]; rfl
              refine pure_ (i := 16) (N := some 73) (v := undef) (a' := ?_) (spec_FirstOrder.D 131071) rfl rfl (any_of HT.out (by kernel_rfl)) (fun _ _ _ h => h) (Or.inr ⟨by rfl, rfl⟩) ?_ ?_
              rotate_left
              ·simp only [Act.put, List.setIfInBounds_toArray, List.set_cons_zero, List.set_cons_succ, i64_w]; rfl
              refine pure_ (i := 17) (N := some 74) (v := ?_) (a' := ?_) (spec_FirstOrder.D 262143) rfl rfl (any_of HT.out (by kernel_rfl)) (fun _ _ _ h => h) (Or.inl ⟨by rfl, ?_⟩) ?_ ?_
              rotate_left
              ·intro w'; go_simp; with_reducible rfl
              rotate_left
              ·simp only [Act.put, List.setIfInBounds_toArray, List.set_cons_zero, List.set_cons_succ, i64_w]; rfl
              refine pure_ (i := 18) (N := some 75) (v := ?_) (a' := ?_) (spec_FirstOrder.D 524287) rfl rfl (any_of HT.out (by kernel_rfl)) (fun _ _ _ h => h) (Or.inl ⟨by rfl, ?_⟩) ?_ ?_
              rotate_left
              ·intro w'; go_simp; with_reducible rfl
              rotate_left
              ·simp only [Act.put, List.setIfInBounds_toArray, List.set_cons_zero, List.set_cons_succ, i64_w]; rfl
              refine pure_ (i := 19) (N := some 76) (v := ?_) (a' := ?_) (spec_FirstOrder.D 1048575) rfl rfl (any_of HT.out (by kernel_rfl)) (fun _ _ _ h => h) (Or.inl ⟨by rfl, ?_⟩) ?_ ?_
              rotate_left
              ·intro w'; go_simp; with_reducible rfl
              rotate_left
              ·simp only [Act.put, List.setIfInBounds_toArray, List.set_cons_zero, List.set_cons_succ, i64_w]; rfl
              refine pure_ (i := 21) (N := some 78) (v := ?_) (a' := ?_) (spec_FirstOrder.D 3145727) rfl rfl (any_of HT.out (by kernel_rfl)) (fun _ _ _ h => h) (Or.inl ⟨by rfl, ?_⟩) ?_ ?_
              rotate_left
              ·intro w'; go_simp; with_reducible rfl
              rotate_left
              ·simp only [Act.put, List.setIfInBounds_toArray, List.set_cons_zero, List.set_cons_succ, i64_w]; rfl
              refine pure_ (i := 22) (N := some 79) (v := ?_) (a' := ?_) (spec_FirstOrder.D 7340031) rfl rfl (any_of HT.out (by kernel_rfl)) (fun _ _ _ h => h) (Or.inl ⟨by rfl, ?_⟩) ?_ ?_
              rotate_left
              ·intro w'; go_simp; with_reducible rfl
              rotate_left
              ·simp only [Act.put, List.setIfInBounds_toArray, List.set_cons_zero, List.set_cons_succ, i64_w]; rfl
              refine pure_ (i := 23) (N := some 80) (v := ?_) (a' := ?_) (spec_FirstOrder.D 15728639) rfl rfl (any_of HT.out (by kernel_rfl)) (fun _ _ _ h => h) (Or.inl ⟨by rfl, ?_⟩) ?_ ?_
              rotate_left
              ·intro w'; go_simp; with_reducible rfl
              rotate_left
              ·simp only [Act.put, List.setIfInBounds_toArray, List.set_cons_zero, List.set_cons_succ, i64_w]; rfl
              refine pure_ (i := 24) (N := some 81) (v := ?_) (a' := ?_) (spec_FirstOrder.D 32505855) rfl rfl (any_of HT.out (by kernel_rfl)) (fun _ _ _ h => h) (Or.inl ⟨by rfl, ?_⟩) ?_ ?_
              rotate_left
              ·intro w'; go_simp; with_reducible rfl
              rotate_left
              ·simp only [Act.put, List.setIfInBounds_toArray, List.set_cons_zero, List.set_cons_succ, i64_w]; rfl
              refine pure_ (i := 25) (N := some 82) (v := ?_) (a' := ?_) (spec_FirstOrder.D 66060287) rfl rfl (any_of HT.out (by kernel_rfl)) (fun _ _ _ h => h) (Or.inl ⟨by rfl, ?_⟩) ?_ ?_
              rotate_left
              ·intro w'; go_simp; with_reducible rfl
              rotate_left
              ·simp only [Act.put, List.setIfInBounds_toArray, List.set_cons_zero, List.set_cons_succ, i64_w]; rfl
              refine take_ (i := 20) (N := some 77) (v := ?_) (a' := ?_) (spec_FirstOrder.D 67108863) rfl rfl (take_ofW HT.out HW.out (by kernel_rfl)) (fun _ _ _ h => h) (Or.inl ⟨by rfl, ?_⟩) hS ?_ ?_
              rotate_left
              ·rintro w' ⟨s0, s1, s2⟩; go_simp; with_reducible rfl
              rotate_left
              ·simp only [Act.put, List.setIfInBounds_toArray, List.set_cons_zero, List.set_cons_succ, i64_w]; rfl
              refine one_ (i := 26) (N := some 83) (spec_FirstOrder.D 134217727) rfl rfl (one_of HT.out (by kernel_rfl)) (by decide) (fun K hK => ?_)
              refine goes_ Tryd.func39 (by kernel_rfl) rfl #[.agg #[.int .i64 gw, .int .i64 gh, .slice A1 gc.length c1], .int .i64 T, u5] (by rfl) rfl rfl (by (try simp only [List.map_toArray, List.map_cons, List.map_nil]); first | done | (simp only [hTa]; rfl) | rfl) ?_
              refine (spec_buGoes.calls k3 gw gh A1 c1 gc T (fun k => some k = u5.ownBlock) u5 M b M3 w _ HE1.out.below (fun W_ hk => HE1.out.cap hk) (Kd.V_reads' HE1.out.cells).2.1 HE1.out.memo HGO.out).mono ?_
              rintro e w9 ⟨rfl, hm9, hb9, hk9⟩
              refine ⟨_, rfl, ?_⟩
              have HE9 := Aside0.mk (HE1.out.next hk9 hb9 hm9)
              have HX9 := Aside0.mk (blk_kept HX1.out hk9 (Kd.R_ne HE1.out.memo HX1.out (by decide)))
              have HV9 := Aside0.mk (Kd.V_map (base' := 0) HV1.out fun _ hf => Kd.F_step hf fun k ho hlt => hk9.2 k hlt ho.1)
              clear hm9 hb9 hk9 HE1 HX1 HV1 hS
              refine hK.out _ _ ⟨(blk_cell HE9.out.box 0).trans rfl, (blk_cell HE9.out.box 1).trans rfl, (blk_cell HE9.out.box 2).trans rfl⟩ (fun hS => ?_)
              clear hK K
              refine norm_ (a' := ?_) ?_ ?_
              rotate_left
              ·show Act.put _ (some 83) _ = _; simp only [Act.put, List.setIfInBounds_toArray, List.set_cons_zero, List.set_cons_succ, i64_w]; rfl
              refine pure_ (i := 27) (N := some 84) (v := ?_) (a' := ?_) (spec_FirstOrder.D 268435455) rfl rfl (any_of HT.out (by kernel_rfl)) (fun _ _ _ h => h) (Or.inl ⟨by rfl, ?_⟩) ?_ ?_
              rotate_left
              ·intro w'; go_simp; with_reducible rfl
              rotate_left
              ·simp only [Act.put, List.setIfInBounds_toArray, List.set_cons_zero, List.set_cons_succ, i64_w]; rfl
              refine pure_ (i := 28) (N := some 85) (v := ?_) (a' := ?_) (spec_FirstOrder.D 536870911) rfl rfl (any_of HT.out (by kernel_rfl)) (fun _ _ _ h => h) (Or.inl ⟨by rfl, ?_⟩) ?_ ?_
              rotate_left
              ·intro w'; go_simp; with_reducible rfl
              rotate_left
              ·simp only [Act.put, List.setIfInBounds_toArray, List.set_cons_zero, List.set_cons_succ, i64_w]; rfl
              cases b with
              | false =>
               rw [if_neg Bool.false_ne_true] at hq
               have HQ3 := Aside0.mk hq
               clear hq
               refine done_ (done_of HT.out (by kernel_rfl)) ?_
               clear hS HT HW
               go_wp2_with fail
               go_roundg k3
               case measure => omega
               case rel => exact ⟨i + 1, M3, out, x9, false, by first | rfl | (simp only [hTa]), rfl, by first | rfl | rw [wrap1o i HI6.out] | simp, ⟨by have := HKQ2.out; omega⟩, HQ3, HE9, ⟨by rw [← HCL.out]; exact HX9.out⟩, ⟨by rw [← HCL.out]; exact HV9.out⟩⟩
              | true =>
               rw [if_pos rfl] at hq
               split at hq
               case isFalse => cases hq
               rename_i hol
               have HOL := Aside0.mk hol
               have HQ3 := Aside0.mk hq
               clear hq hol
               refine done_ (done_of HT.out (by kernel_rfl)) ?_
               clear hS HT HW
               go_wp2_with ((with_reducible refine gate_builtin (b := .append) (xs := #[.tmp 86, .tmp 88]) rfl ?_); at_builtin; refine Kd.R_append (Kd.int .i64) (w0 := w) w.heap.size rfl (.tmp 86) (.tmp 88) 31 3 (.int .i64 0) 8 rfl Tryd.underlying31 info3 rfl (by decide) (by omega) (.slice A8 out.length c8) out (rd L (i : Int)) [.int .i64 (rd L (i : Int))] (fun k => some k ≠ u5.ownBlock) (fun _ => False) rfl rfl ?aP (fun _ hk => hk.elim) ?aF ?aO ?aB ?aS ?aL ?_; (case aP => exact rfl); (case aB => exact HE9.out.below); (case aF => exact (fun k_ hk => Kd.fresh' (Kd.R_lt HE9.out.memo) k_ hk)); (case aO => exact HE9.out.out); (case aS => exact HE9.out.below.size); (case aL => have := HOL.out; omega); intro v7 w7 ho7 hb7 hg7 hat7; (have HE7 := Aside0.mk (HE9.out.more hg7 hat7 hb7 ho7)); (have HX7 := Aside0.mk (blk_grown HX9.out hg7 (Kd.R_ne HE9.out.out HX9.out (by decide)))); (have HV7 := Aside0.mk (Kd.V_after HV9.out hg7 hat7)); clear ho7 hb7 hg7 hat7 HE9 HX9 HV9)
               go_roundg k3
               case measure => omega
               case rel => exact ⟨i + 1, M3, (out ++ [rd L (i : Int)]), T, true, by first | rfl | (simp only [hTa]), rfl, by first | rfl | rw [wrap1o i HI6.out] | simp, ⟨by have := HKQ2.out; omega⟩, HQ3, HE7, ⟨by rw [← HCL.out]; exact HX7.out⟩, ⟨by rw [← HCL.out]; exact HV7.out⟩⟩
          ·have e1 : decide ((i : Int) < (L.length : Int)) = false := decide_eq_false (by omega)
           have e2 : decide (i < L.length) = false := decide_eq_false hlt
           rw [if_neg (by omega)] at hq
           cases fd with
           | true =>
            rw [if_pos rfl] at hq
            have HQ3 := Aside0.mk hq
            clear hq HQ hlt
            go_wp2_with fail
            go_roundg k3
            case measure => have h1 := HKQ2.out; have h2 := HK1.out; omega
            case rel => exact ⟨M, out, x9, rfl, HQ3, HE⟩
           | false =>
            rw [if_neg Bool.false_ne_true] at hq
            simp only [Option.some.injEq, Prod.mk.injEq] at hq
            obtain ⟨rfl, rfl⟩ := hq
            clear HQ hlt
            go_wp2_with fail
            go_ret2
            exact ⟨_, rfl, Kd.R_nil _ _ _ _ _, HE.out.below⟩
    ·have e1 : decide (out.length < L.length) = false := decide_eq_false hlt
     rw [if_neg (by omega)] at hq
     simp only [Option.some.injEq, Prod.mk.injEq] at hq
     obtain ⟨rfl, rfl⟩ := hq
     clear HQ hlt
     go_wp2_with fail
     go_ret2
     exact ⟨_, rfl, Kd.R_mono HE.out.out (fun _ _ => trivial), HE.out.below⟩
end Go.Proofs.YtmefnfhghfemgaaDoor.Q
end
section
namespace Go.Proofs.YtmefnfhghfemgaaDoor.Q
open Go.RowKit Go.Proofs.YtmefnfhghfemgaaDoorW.PrintWords Go.Proofs.YtmefnfhghfemgaaDoorW.PrintLast Go.Proofs.YtmefnfhghfemgaaDoorW.PrintMore
attribute [local go_sem] max2_int min2_int max_two min_two max_three min_three max_four min_four
set_option linter.unusedVariables false
set_option linter.unusedSimpArgs false
mutual
def laws_FnExactFirstOrder.j0 : Nat → ByteArray → List Int → Bool → List Int → Bool → Option (Bool)
 | 0, _, _, _, _, _ => none
 | k + 1, x0, x3, x4, x5, x32 => if x32 = true then (some false) else ((laws_markIntS.f k x5 1).bind fun bt110 => ((laws_heldIntS.f k bt110.2 1).bind fun t112 => (if t112 < 0 then (some false) else (if t112 = bt110.1 then ((impl_FirstOrder.f k x0).bind fun bt113 => ((laws_eqIntS.f k bt113.1 x3).bind fun t117 => (if t117 = true then (laws_FnExactFirstOrder.j1 k bt110.2 bt110.1 (bt113.2 != x4)) else (laws_FnExactFirstOrder.j1 k bt110.2 bt110.1 true)))) else (some false)))))
def laws_FnExactFirstOrder.j1 : Nat → List Int → Int → Bool → Option (Bool)
 | 0, _, _, _ => none
 | k + 1, x5, x7, x57 => if x57 = true then (some false) else ((laws_heldIntS.f k x5 1).bind fun t118 => (if t118 < 0 then (some false) else (if t118 = x7 then (some true) else (some false))))
end
def laws_FnExactFirstOrder.f (k : Nat) (a0 : ByteArray) : Option (Bool) := if (a0.size : Int) > 1048576 then (some true) else ((spec_FirstOrder.f k a0).bind fun bt101 => ((impl_FirstOrder.f k a0).bind fun bt105 => ((laws_eqIntS.f k bt105.1 bt101.1).bind fun t109 => (if t109 = true then (laws_FnExactFirstOrder.j0 k a0 bt101.1 bt101.2 bt105.1 (bt105.2 != bt101.2)) else (laws_FnExactFirstOrder.j0 k a0 bt101.1 bt101.2 bt105.1 true)))))
set_option maxHeartbeats 8000000 in
set_option maxRecDepth 100000 in
theorem laws_FnExactFirstOrder.calls (k : Nat) (a0 : ByteArray) (r : Bool) (w : World) (hG : GoodW w) (h : laws_FnExactFirstOrder.f k a0 = some r) :
  Calls Tryd.prog 7 #[.string a0] w fun e w' => e = .returned (.bool r) ∧ Below w.heap.size w w' := by
 have HG := Aside0.mk hG
 clear hG
 have HB := Aside0.mk (Below.refl w.heap.size w)
 have H : (if (a0.size : Int) > 1048576 then (some true) else ((spec_FirstOrder.f k a0).bind fun bt101 => ((impl_FirstOrder.f k a0).bind fun bt105 => ((laws_eqIntS.f k bt105.1 bt101.1).bind fun t109 => (if t109 = true then (laws_FnExactFirstOrder.j0 k a0 bt101.1 bt101.2 bt105.1 (bt105.2 != bt101.2)) else (laws_FnExactFirstOrder.j0 k a0 bt101.1 bt101.2 bt105.1 true)))))) = some r := h
 clear h
 by_cases c2 : (a0.size : Int) > 1048576
 ·rw [if_pos c2] at H
  have c2b0 : decide (1048576 < (a0.size : Int)) = true := decide_eq_true c2
  have c2b1 : decide (1048576 < a0.size) = true := decide_eq_true (by omega)
  clear c2
  obtain rfl := Option.some.inj H
  go_enter Tryd.func7, Tryd.ntmps7
  go_wp2
  go_ret
  exact ⟨by first | rfl | (simp [errW_none, errW_some] <;> rfl) | (simp [*, errW_none, errW_some] <;> rfl), bel HB⟩
 ·rw [if_neg c2] at H
  have c2b0 : decide (1048576 < (a0.size : Int)) = false := decide_eq_false c2
  have c2b1 : decide (1048576 < a0.size) = false := decide_eq_false (by omega)
  clear c2
  replace H := Option.bind_eq_some_iff.mp H
  obtain ⟨⟨t101, t102⟩, A30, H⟩ := H
  replace H : ((impl_FirstOrder.f k a0).bind fun bt105 => ((laws_eqIntS.f k bt105.1 t101).bind fun t109 => (if t109 = true then (laws_FnExactFirstOrder.j0 k a0 t101 t102 bt105.1 (bt105.2 != t102)) else (laws_FnExactFirstOrder.j0 k a0 t101 t102 bt105.1 true)))) = some r := H
  have A3 := Aside0.mk A30
  clear A30
  replace H := Option.bind_eq_some_iff.mp H
  obtain ⟨⟨t105, t106⟩, A40, H⟩ := H
  replace H : ((laws_eqIntS.f k t105 t101).bind fun t109 => (if t109 = true then (laws_FnExactFirstOrder.j0 k a0 t101 t102 t105 (t106 != t102)) else (laws_FnExactFirstOrder.j0 k a0 t101 t102 t105 true))) = some r := H
  have A4 := Aside0.mk A40
  clear A40
  have HC5 := Aside0.mk H
  clear H
  go_enter Tryd.func7, Tryd.ntmps7
  go_upto_region 5 with (first | ((with_reducible refine gate_callee (f := 17) rfl ?_); refine gcall (some 16) Tryd.func17 #[.string a0] rfl ?_; (with_reducible refine (spec_FirstOrder.calls k a0 t101 t102 _ A3.out).mono ?_); rintro e w6 ⟨v103, rfl, ho0, hb⟩; refine ⟨_, rfl, ?_⟩; have n0_ := Aside0.mk (Kd.R_lower ho0 (below_size (bel HB))); have n1_ := Aside0.mk (below_step (bel HB) hb); clear HB; have HO104 := n0_; have HB := n1_; clear n0_ n1_; (try clear hb); (try clear hb2); (try clear hk); (try clear hi); (try clear ho0)) | ((with_reducible refine gate_callee (f := 18) rfl ?_); refine gcall (some 21) Tryd.func18 #[.string a0] rfl ?_; (with_reducible refine (impl_FirstOrder.calls k a0 t105 t106 _ ?side1 A4.out).mono ?_); (case side1 => (refine GoodW.below HG.out ?_); exact bel HB); rintro e w7 ⟨v107, rfl, ho0, hb⟩; refine ⟨_, rfl, ?_⟩; have n0_ := Aside0.mk (Kd.R_elder' (rch HO104) (Kd.R_base ho0) hb); have n1_ := Aside0.mk (Kd.R_lower (Kd.R_new' ho0 (Kd.R_lt (rch HO104))) (below_size (bel HB))); have n2_ := Aside0.mk (below_step (bel HB) hb); clear HO104; clear HB; have HO104 := n0_; have HO108 := n1_; have HB := n2_; clear n0_ n1_ n2_; (try clear hb); (try clear hb2); (try clear hk); (try clear hi); (try clear ho0)))
  (try simp only [Act.put, List.setIfInBounds_toArray, List.set_cons_zero, List.set_cons_succ])
  go_cut [32] (fun v32 wc => ∃ (kq : Nat) (x32_4 : Bool), v32 = .bool x32_4 ∧ Aside0 (laws_FnExactFirstOrder.j0 kq a0 t101 t102 t105 x32_4 = some r) ∧ Aside0 (kq ≤ k) ∧ Aside0 (Kd.R (Kd.int .i64) 3 wc w.heap.size (fun k_ => some k_ ≠ (v107 : Value).ownBlock) v103 t101) ∧ Aside0 (Kd.R (Kd.int .i64) 3 wc w.heap.size (fun k_ => some k_ ≠ (v103 : Value).ownBlock) v107 t105) ∧ Aside0 (Below w.heap.size w wc))
  case first =>
   have H := HC5.out
   clear HC5
   replace H := Option.bind_eq_some_iff.mp H
   obtain ⟨t109, A80, H⟩ := H
   replace H : (if t109 = true then (laws_FnExactFirstOrder.j0 k a0 t101 t102 t105 (t106 != t102)) else (laws_FnExactFirstOrder.j0 k a0 t101 t102 t105 true)) = some r := H
   have A8 := Aside0.mk A80
   clear A80
   by_cases c9 : t109 = true
   ·subst c9
    have H1 : (laws_FnExactFirstOrder.j0 k a0 t101 t102 t105 (t106 != t102)) = some r := by rw [if_pos rfl] at H; exact H
    clear H
    have H := H1
    clear H1
    have H' := Aside0.mk H
    clear H
    obtain ⟨Ao10, co10, eo10⟩ := Kd.R_slice HO108.out
    subst eo10
    obtain ⟨Ao11, co11, eo11⟩ := Kd.R_slice HO104.out
    subst eo11
    go_wp2_with (first | ((with_reducible refine gate_callee (f := 19) rfl ?_); refine gcall (some 26) Tryd.func19 #[.slice Ao10 t105.length co10, .slice Ao11 t101.length co11] rfl ?_; (with_reducible refine (laws_eqIntS.calls k _ _ t105 _ _ t101 true _ ?side1 ?side2 ?side3 ?side4 A8.out).mono ?_); (case side1 => repeat (first | exact (Kd.R_reads' HO108.out).2.2 | (with_reducible refine Kd.C_alloc ?_ _) | (with_reducible refine Kd.C_drewN ?_ _) | (with_reducible refine Kd.C_drew ?_))); (case side2 => exact (Kd.R_reads' HO108.out).2.1); (case side3 => repeat (first | exact (Kd.R_reads' HO104.out).2.2 | (with_reducible refine Kd.C_alloc ?_ _) | (with_reducible refine Kd.C_drewN ?_ _) | (with_reducible refine Kd.C_drew ?_))); (case side4 => exact (Kd.R_reads' HO104.out).2.1); rintro e w' ⟨rfl, ⟨nd, rfl⟩⟩; refine ⟨_, rfl, ?_⟩))
    go_meet
    case rel => exact ⟨_, ((t106 != t102)), (by first | rfl | (simp; done) | (simp [*]; done)), H', ⟨by first | omega | exact Nat.le_refl _⟩, ⟨by (with_reducible repeat (first | apply Kd.R_alloc | apply Kd.R_drewN | apply Kd.R_drew)); (first | exact Kd.R_mono HO104.out (fun _ hk => hk.2) | exact HO104.out | exact R_any HO104.out)⟩, ⟨by (with_reducible repeat (first | apply Kd.R_alloc | apply Kd.R_drewN | apply Kd.R_drew)); (first | exact Kd.R_mono HO108.out (fun _ hk => hk.2) | exact HO108.out | exact R_any HO108.out)⟩, ⟨bel HB⟩⟩
   ·replace c9 := Bool.eq_false_iff.mpr c9
    subst c9
    have H1 : (laws_FnExactFirstOrder.j0 k a0 t101 t102 t105 true) = some r := by rw [if_neg (show ¬ (false = true) by decide)] at H; exact H
    clear H
    have H := H1
    clear H1
    have H' := Aside0.mk H
    clear H
    obtain ⟨Ao12, co12, eo12⟩ := Kd.R_slice HO108.out
    subst eo12
    obtain ⟨Ao13, co13, eo13⟩ := Kd.R_slice HO104.out
    subst eo13
    go_wp2_with (first | ((with_reducible refine gate_callee (f := 19) rfl ?_); refine gcall (some 26) Tryd.func19 #[.slice Ao12 t105.length co12, .slice Ao13 t101.length co13] rfl ?_; (with_reducible refine (laws_eqIntS.calls k _ _ t105 _ _ t101 false _ ?side1 ?side2 ?side3 ?side4 A8.out).mono ?_); (case side1 => repeat (first | exact (Kd.R_reads' HO108.out).2.2 | (with_reducible refine Kd.C_alloc ?_ _) | (with_reducible refine Kd.C_drewN ?_ _) | (with_reducible refine Kd.C_drew ?_))); (case side2 => exact (Kd.R_reads' HO108.out).2.1); (case side3 => repeat (first | exact (Kd.R_reads' HO104.out).2.2 | (with_reducible refine Kd.C_alloc ?_ _) | (with_reducible refine Kd.C_drewN ?_ _) | (with_reducible refine Kd.C_drew ?_))); (case side4 => exact (Kd.R_reads' HO104.out).2.1); rintro e w' ⟨rfl, ⟨nd, rfl⟩⟩; refine ⟨_, rfl, ?_⟩))
    go_meet
    case rel => exact ⟨_, (true), (by first | rfl | (simp; done) | (simp [*]; done)), H', ⟨by first | omega | exact Nat.le_refl _⟩, ⟨by (with_reducible repeat (first | apply Kd.R_alloc | apply Kd.R_drewN | apply Kd.R_drew)); (first | exact Kd.R_mono HO104.out (fun _ hk => hk.2) | exact HO104.out | exact R_any HO104.out)⟩, ⟨by (with_reducible repeat (first | apply Kd.R_alloc | apply Kd.R_drewN | apply Kd.R_drew)); (first | exact Kd.R_mono HO108.out (fun _ hk => hk.2) | exact HO108.out | exact R_any HO108.out)⟩, ⟨bel HB⟩⟩
  case rest =>
   clear HC5
   try clear c1
   try clear c2
   try clear c2b0
   try clear c2b0y
   try clear c2b1
   try clear p2
   try clear c7
   try clear c9
   obtain ⟨kq, x32_4, rfl, HA, HJ4, HO_3, HO_5, HB⟩ := hcut
   cases kq with
   | zero => exact absurd HA.out (by simp [laws_FnExactFirstOrder.j0])
   | succ kj4 =>
    have H := HA.out
    clear HA
    simp only [laws_FnExactFirstOrder.j0] at H
    by_cases c14 : x32_4 = true
    ·subst c14
     have H1 : (some false) = some r := by rw [if_pos rfl] at H; exact H
     clear H
     have H := H1
     clear H1
     obtain rfl := Option.some.inj H
     go_wp2
     go_ret
     exact ⟨by first | rfl | (simp [errW_none, errW_some] <;> rfl) | (simp [*, errW_none, errW_some] <;> rfl), bel HB⟩
    ·replace c14 := Bool.eq_false_iff.mpr c14
     subst c14
     have H1 : ((laws_markIntS.f kj4 t105 1).bind fun bt110 => ((laws_heldIntS.f kj4 bt110.2 1).bind fun t112 => (if t112 < 0 then (some false) else (if t112 = bt110.1 then ((impl_FirstOrder.f kj4 a0).bind fun bt113 => ((laws_eqIntS.f kj4 bt113.1 t101).bind fun t117 => (if t117 = true then (laws_FnExactFirstOrder.j1 kj4 bt110.2 bt110.1 (bt113.2 != t102)) else (laws_FnExactFirstOrder.j1 kj4 bt110.2 bt110.1 true)))) else (some false))))) = some r := by rw [if_neg (show ¬ (false = true) by decide)] at H; exact H
     clear H
     have H := H1
     clear H1
     replace H := Option.bind_eq_some_iff.mp H
     obtain ⟨⟨t110, t111⟩, A150, H⟩ := H
     replace H : ((laws_heldIntS.f kj4 t111 1).bind fun t112 => (if t112 < 0 then (some false) else (if t112 = t110 then ((impl_FirstOrder.f kj4 a0).bind fun bt113 => ((laws_eqIntS.f kj4 bt113.1 t101).bind fun t117 => (if t117 = true then (laws_FnExactFirstOrder.j1 kj4 t111 t110 (bt113.2 != t102)) else (laws_FnExactFirstOrder.j1 kj4 t111 t110 true)))) else (some false)))) = some r := H
     have A15 := Aside0.mk A150
     clear A150
     replace H := Option.bind_eq_some_iff.mp H
     obtain ⟨t112, A160, H⟩ := H
     replace H : (if t112 < 0 then (some false) else (if t112 = t110 then ((impl_FirstOrder.f kj4 a0).bind fun bt113 => ((laws_eqIntS.f kj4 bt113.1 t101).bind fun t117 => (if t117 = true then (laws_FnExactFirstOrder.j1 kj4 t111 t110 (bt113.2 != t102)) else (laws_FnExactFirstOrder.j1 kj4 t111 t110 true)))) else (some false))) = some r := H
     have A16 := Aside0.mk A160
     clear A160
     by_cases c17 : t112 < 0
     ·rw [if_pos c17] at H
      have c17b0 : decide (t112 < 0) = true := decide_eq_true c17
      clear c17
      obtain rfl := Option.some.inj H
      obtain ⟨Ao18, co18, eo18⟩ := Kd.R_slice HO_5.out
      subst eo18
      go_wp2_with (first | ((with_reducible refine gate_callee (f := 20) rfl ?_); refine gcall (some 35) Tryd.func20 #[.slice Ao18 t105.length co18, .int .i64 1] rfl ?_; (with_reducible refine (laws_markIntS.calls kj4 (fun k_ => some k_ = (.slice Ao18 t105.length co18 : Value).ownBlock) (.slice Ao18 t105.length co18) t105 1 t110 t111 w _ ?side1 ?side2 A15.out).mono ?_); (case side1 => repeat (first | (with_reducible first | exact HB.out | apply below_alloc | apply pw_below_drewN | apply below_drew1) | exact HB.out)); (case side2 => exact Kd.R_tight rfl HO_5.out); rintro e w19 ⟨rfl, hy0, hb, hkp⟩; refine ⟨_, rfl, ?_⟩; have n0_ := Aside0.mk (Kd.R_mono (ok' := fun k_ => some k_ ≠ (.slice Ao18 t105.length co18 : Value).ownBlock) (Kd.R_keptB (HO_3.out) hkp (fun k_ hk_ hs_ => (hk_) hs_)) (fun k_ hk_ => hk_.1)); have n1_ := Aside0.mk (Kd.R_reok rfl hy0 (fun k_ e_ => HO_5.out.1 k_ e_)); have n2_ := Aside0.mk (hb); clear HO_3; clear HO_5; clear HB; have HO_3 := n0_; have HO_5 := n1_; have HB := n2_; clear n0_ n1_ n2_; (try clear hb); (try clear hkp); (try clear hy0)) | ((with_reducible refine gate_callee (f := 21) rfl ?_); refine goesL_ (some 38) rfl rfl Tryd.func21 (by kernel_rfl) rfl #[.slice Ao18 t111.length co18, .int .i64 1] rfl (by (try simp only [List.map_toArray, List.map_cons, List.map_nil]); first | done | (rw [show t111.length = t105.length from (Kd.R_reads' HO_5.out).1.symm] <;> rfl) | rfl | (simp only [List.length_drop, List.length_take]; rfl)) ?_; (with_reducible refine (laws_heldIntS.calls kj4 _ _ t111 1 t112 _ ?side1 ?side2 A16.out).mono ?_); (case side1 => repeat (first | exact (Kd.R_reads' HO_5.out).2.2 | (with_reducible refine Kd.C_alloc ?_ _) | (with_reducible refine Kd.C_drewN ?_ _) | (with_reducible refine Kd.C_drew ?_))); (case side2 => rw [show t111.length = t105.length from (Kd.R_reads' HO_5.out).1.symm]; exact (Kd.R_reads' HO_5.out).2.1); rintro e w' ⟨rfl, ⟨nd, rfl⟩⟩; refine ⟨_, rfl, ?_⟩))
      go_ret
      exact ⟨by first | rfl | (simp [errW_none, errW_some] <;> rfl) | (simp [*, errW_none, errW_some] <;> rfl), bel HB⟩
     ·rw [if_neg c17] at H
      have c17b0 : decide (t112 < 0) = false := decide_eq_false c17
      clear c17
      by_cases c20 : t112 = t110
      ·rw [if_pos c20] at H
       have c20b0 : (t112 == t110) = true := beq_iff_eq.mpr c20
       have c20b1 : (t112 != t110) = false := bne_eq_false_iff_eq.mpr c20
       clear c20
       replace H := Option.bind_eq_some_iff.mp H
       obtain ⟨⟨t113, t114⟩, A210, H⟩ := H
       replace H : ((laws_eqIntS.f kj4 t113 t101).bind fun t117 => (if t117 = true then (laws_FnExactFirstOrder.j1 kj4 t111 t110 (t114 != t102)) else (laws_FnExactFirstOrder.j1 kj4 t111 t110 true))) = some r := H
       have A21 := Aside0.mk A210
       clear A210
       have HC22 := Aside0.mk H
       clear H
       obtain ⟨Ao23, co23, eo23⟩ := Kd.R_slice HO_5.out
       subst eo23
       go_upto_region 16 with (first | ((with_reducible refine gate_callee (f := 20) rfl ?_); refine gcall (some 35) Tryd.func20 #[.slice Ao23 t105.length co23, .int .i64 1] rfl ?_; (with_reducible refine (laws_markIntS.calls kj4 (fun k_ => some k_ = (.slice Ao23 t105.length co23 : Value).ownBlock) (.slice Ao23 t105.length co23) t105 1 t110 t111 w _ ?side1 ?side2 A15.out).mono ?_); (case side1 => repeat (first | (with_reducible first | exact HB.out | apply below_alloc | apply pw_below_drewN | apply below_drew1) | exact HB.out)); (case side2 => exact Kd.R_tight rfl HO_5.out); rintro e w24 ⟨rfl, hy0, hb, hkp⟩; refine ⟨_, rfl, ?_⟩; have n0_ := Aside0.mk (Kd.R_mono (ok' := fun k_ => some k_ ≠ (.slice Ao23 t105.length co23 : Value).ownBlock) (Kd.R_keptB (HO_3.out) hkp (fun k_ hk_ hs_ => (hk_) hs_)) (fun k_ hk_ => hk_.1)); have n1_ := Aside0.mk (Kd.R_reok rfl hy0 (fun k_ e_ => HO_5.out.1 k_ e_)); have n2_ := Aside0.mk (hb); clear HO_3; clear HO_5; clear HB; have HO_3 := n0_; have HO_5 := n1_; have HB := n2_; clear n0_ n1_ n2_; (try clear hb); (try clear hkp); (try clear hy0)) | ((with_reducible refine gate_callee (f := 21) rfl ?_); refine goesL_ (some 38) rfl rfl Tryd.func21 (by kernel_rfl) rfl #[.slice Ao23 t111.length co23, .int .i64 1] rfl (by (try simp only [List.map_toArray, List.map_cons, List.map_nil]); first | done | (rw [show t111.length = t105.length from (Kd.R_reads' HO_5.out).1.symm] <;> rfl) | rfl | (simp only [List.length_drop, List.length_take]; rfl)) ?_; (with_reducible refine (laws_heldIntS.calls kj4 _ _ t111 1 t112 _ ?side1 ?side2 A16.out).mono ?_); (case side1 => repeat (first | exact (Kd.R_reads' HO_5.out).2.2 | (with_reducible refine Kd.C_alloc ?_ _) | (with_reducible refine Kd.C_drewN ?_ _) | (with_reducible refine Kd.C_drew ?_))); (case side2 => rw [show t111.length = t105.length from (Kd.R_reads' HO_5.out).1.symm]; exact (Kd.R_reads' HO_5.out).2.1); rintro e w' ⟨rfl, ⟨nd, rfl⟩⟩; refine ⟨_, rfl, ?_⟩) | ((with_reducible refine gate_callee (f := 18) rfl ?_); refine gcall (some 46) Tryd.func18 #[.string a0] rfl ?_; (with_reducible refine (impl_FirstOrder.calls kj4 a0 t113 t114 _ ?side1 A21.out).mono ?_); (case side1 => (refine GoodW.below HG.out ?_); exact bel HB); rintro e w25 ⟨v115, rfl, ho0, hb⟩; refine ⟨_, rfl, ?_⟩; have n0_ := Aside0.mk (Kd.R_elder' (rch HO_3) (Kd.R_base ho0) hb); have n1_ := Aside0.mk (Kd.R_elder' (rch HO_5) (Kd.R_base ho0) hb); have n2_ := Aside0.mk (Kd.R_lower (Kd.R_new' (Kd.R_new' ho0 (Kd.R_lt (rch HO_3))) (Kd.R_lt (rch HO_5))) (below_size (bel HB))); have n3_ := Aside0.mk (below_step (bel HB) hb); clear HO_3; clear HO_5; clear HB; have HO_3 := n0_; have HO_5 := n1_; have HO116 := n2_; have HB := n3_; clear n0_ n1_ n2_ n3_; (try clear hb); (try clear hb2); (try clear hk); (try clear hi); (try clear ho0)))
       (try simp only [Act.put, List.setIfInBounds_toArray, List.set_cons_zero, List.set_cons_succ])
       go_cut [57] (fun v57 wc => ∃ (kq : Nat) (x57_21 : Bool), v57 = .bool x57_21 ∧ Aside0 (laws_FnExactFirstOrder.j1 kq t111 t110 x57_21 = some r) ∧ Aside0 (kq ≤ kj4) ∧ Aside0 (Kd.R (Kd.int .i64) 3 wc w.heap.size (fun _ => True) (.slice Ao23 t105.length co23) t111) ∧ Aside0 (Below w.heap.size w wc))
       case first =>
        have H := HC22.out
        clear HC22
        replace H := Option.bind_eq_some_iff.mp H
        obtain ⟨t117, A260, H⟩ := H
        replace H : (if t117 = true then (laws_FnExactFirstOrder.j1 kj4 t111 t110 (t114 != t102)) else (laws_FnExactFirstOrder.j1 kj4 t111 t110 true)) = some r := H
        have A26 := Aside0.mk A260
        clear A260
        by_cases c27 : t117 = true
        ·subst c27
         have H1 : (laws_FnExactFirstOrder.j1 kj4 t111 t110 (t114 != t102)) = some r := by rw [if_pos rfl] at H; exact H
         clear H
         have H := H1
         clear H1
         have H' := Aside0.mk H
         clear H
         obtain ⟨Ao28, co28, eo28⟩ := Kd.R_slice HO116.out
         subst eo28
         obtain ⟨Ao29, co29, eo29⟩ := Kd.R_slice HO_3.out
         subst eo29
         go_wp2_with (first | ((with_reducible refine gate_callee (f := 19) rfl ?_); refine gcall (some 51) Tryd.func19 #[.slice Ao28 t113.length co28, .slice Ao29 t101.length co29] rfl ?_; (with_reducible refine (laws_eqIntS.calls kj4 _ _ t113 _ _ t101 true _ ?side1 ?side2 ?side3 ?side4 A26.out).mono ?_); (case side1 => repeat (first | exact (Kd.R_reads' HO116.out).2.2 | (with_reducible refine Kd.C_alloc ?_ _) | (with_reducible refine Kd.C_drewN ?_ _) | (with_reducible refine Kd.C_drew ?_))); (case side2 => exact (Kd.R_reads' HO116.out).2.1); (case side3 => repeat (first | exact (Kd.R_reads' HO_3.out).2.2 | (with_reducible refine Kd.C_alloc ?_ _) | (with_reducible refine Kd.C_drewN ?_ _) | (with_reducible refine Kd.C_drew ?_))); (case side4 => exact (Kd.R_reads' HO_3.out).2.1); rintro e w' ⟨rfl, ⟨nd, rfl⟩⟩; refine ⟨_, rfl, ?_⟩))
         go_meet
         case rel => exact ⟨_, ((t114 != t102)), (by first | rfl | (simp; done) | (simp [*]; done)), H', ⟨by have := HJ4.out; first | omega | exact Nat.le_refl _⟩, ⟨by (with_reducible repeat (first | apply Kd.R_alloc | apply Kd.R_drewN | apply Kd.R_drew)); exact Kd.R_mono HO_5.out (fun _ hk => trivial)⟩, ⟨bel HB⟩⟩
        ·replace c27 := Bool.eq_false_iff.mpr c27
         subst c27
         have H1 : (laws_FnExactFirstOrder.j1 kj4 t111 t110 true) = some r := by rw [if_neg (show ¬ (false = true) by decide)] at H; exact H
         clear H
         have H := H1
         clear H1
         have H' := Aside0.mk H
         clear H
         obtain ⟨Ao30, co30, eo30⟩ := Kd.R_slice HO116.out
         subst eo30
         obtain ⟨Ao31, co31, eo31⟩ := Kd.R_slice HO_3.out
         subst eo31
         go_wp2_with (first | ((with_reducible refine gate_callee (f := 19) rfl ?_); refine gcall (some 51) Tryd.func19 #[.slice Ao30 t113.length co30, .slice Ao31 t101.length co31] rfl ?_; (with_reducible refine (laws_eqIntS.calls kj4 _ _ t113 _ _ t101 false _ ?side1 ?side2 ?side3 ?side4 A26.out).mono ?_); (case side1 => repeat (first | exact (Kd.R_reads' HO116.out).2.2 | (with_reducible refine Kd.C_alloc ?_ _) | (with_reducible refine Kd.C_drewN ?_ _) | (with_reducible refine Kd.C_drew ?_))); (case side2 => exact (Kd.R_reads' HO116.out).2.1); (case side3 => repeat (first | exact (Kd.R_reads' HO_3.out).2.2 | (with_reducible refine Kd.C_alloc ?_ _) | (with_reducible refine Kd.C_drewN ?_ _) | (with_reducible refine Kd.C_drew ?_))); (case side4 => exact (Kd.R_reads' HO_3.out).2.1); rintro e w' ⟨rfl, ⟨nd, rfl⟩⟩; refine ⟨_, rfl, ?_⟩))
         go_meet
         case rel => exact ⟨_, (true), (by first | rfl | (simp; done) | (simp [*]; done)), H', ⟨by have := HJ4.out; first | omega | exact Nat.le_refl _⟩, ⟨by (with_reducible repeat (first | apply Kd.R_alloc | apply Kd.R_drewN | apply Kd.R_drew)); exact Kd.R_mono HO_5.out (fun _ hk => trivial)⟩, ⟨bel HB⟩⟩
       case rest =>
        clear HC22
        try clear c1
        try clear c2
        try clear c2b0
        try clear c2b0y
        try clear c2b1
        try clear p2
        try clear c7
        try clear c9
        try clear c14
        try clear c17
        try clear c17b0
        try clear c17b0y
        try clear c18
        try clear c19
        try clear c20
        try clear c20b0
        try clear c20b0y
        try clear c20b1
        try clear c21
        try clear c27
        try clear p2
        obtain ⟨kq, x57_21, rfl, HA, HJ21, HO_5, HB⟩ := hcut
        have hl5_21 := (Kd.R_reads' HO_5.out).1
        rw [hl5_21] at HO_5
        (try simp only [hl5_21])
        cases kq with
        | zero => exact absurd HA.out (by simp [laws_FnExactFirstOrder.j1])
        | succ kj21 =>
         have H := HA.out
         clear HA
         simp only [laws_FnExactFirstOrder.j1] at H
         by_cases c32 : x57_21 = true
         ·subst c32
          have H1 : (some false) = some r := by rw [if_pos rfl] at H; exact H
          clear H
          have H := H1
          clear H1
          obtain rfl := Option.some.inj H
          go_wp2
          go_ret
          exact ⟨by first | rfl | (simp [errW_none, errW_some] <;> rfl) | (simp [*, errW_none, errW_some] <;> rfl), bel HB⟩
         ·replace c32 := Bool.eq_false_iff.mpr c32
          subst c32
          have H1 : ((laws_heldIntS.f kj21 t111 1).bind fun t118 => (if t118 < 0 then (some false) else (if t118 = t110 then (some true) else (some false)))) = some r := by rw [if_neg (show ¬ (false = true) by decide)] at H; exact H
          clear H
          have H := H1
          clear H1
          replace H := Option.bind_eq_some_iff.mp H
          obtain ⟨t118, A330, H⟩ := H
          replace H : (if t118 < 0 then (some false) else (if t118 = t110 then (some true) else (some false))) = some r := H
          have A33 := Aside0.mk A330
          clear A330
          by_cases c34 : t118 < 0
          ·rw [if_pos c34] at H
           have c34b0 : decide (t118 < 0) = true := decide_eq_true c34
           clear c34
           obtain rfl := Option.some.inj H
           go_wp2_with (first | ((with_reducible refine gate_callee (f := 21) rfl ?_); refine gcall (some 60) Tryd.func21 #[.slice Ao23 t111.length co23, .int .i64 1] rfl ?_; (with_reducible refine (laws_heldIntS.calls kj21 _ _ t111 1 t118 _ ?side1 ?side2 A33.out).mono ?_); (case side1 => repeat (first | exact (Kd.R_reads' HO_5.out).2.2 | (with_reducible refine Kd.C_alloc ?_ _) | (with_reducible refine Kd.C_drewN ?_ _) | (with_reducible refine Kd.C_drew ?_))); (case side2 => exact (Kd.R_reads' HO_5.out).2.1); rintro e w' ⟨rfl, ⟨nd, rfl⟩⟩; refine ⟨_, rfl, ?_⟩))
           go_ret
           exact ⟨by first | rfl | (simp [errW_none, errW_some] <;> rfl) | (simp [*, errW_none, errW_some] <;> rfl), bel HB⟩
          ·rw [if_neg c34] at H
           have c34b0 : decide (t118 < 0) = false := decide_eq_false c34
           clear c34
           by_cases c35 : t118 = t110
           ·rw [if_pos c35] at H
            have c35b0 : (t118 == t110) = true := beq_iff_eq.mpr c35
            have c35b1 : (t118 != t110) = false := bne_eq_false_iff_eq.mpr c35
            clear c35
            obtain rfl := Option.some.inj H
            go_wp2_with (first | ((with_reducible refine gate_callee (f := 21) rfl ?_); refine gcall (some 60) Tryd.func21 #[.slice Ao23 t111.length co23, .int .i64 1] rfl ?_; (with_reducible refine (laws_heldIntS.calls kj21 _ _ t111 1 t118 _ ?side1 ?side2 A33.out).mono ?_); (case side1 => repeat (first | exact (Kd.R_reads' HO_5.out).2.2 | (with_reducible refine Kd.C_alloc ?_ _) | (with_reducible refine Kd.C_drewN ?_ _) | (with_reducible refine Kd.C_drew ?_))); (case side2 => exact (Kd.R_reads' HO_5.out).2.1); rintro e w' ⟨rfl, ⟨nd, rfl⟩⟩; refine ⟨_, rfl, ?_⟩))
            go_ret
            exact ⟨by first | rfl | (simp [errW_none, errW_some] <;> rfl) | (simp [*, errW_none, errW_some] <;> rfl), bel HB⟩
           ·rw [if_neg c35] at H
            have c35b0 : (t118 == t110) = false := beq_eq_false_iff_ne.mpr c35
            have c35b1 : (t118 != t110) = true := bne_iff_ne.mpr c35
            obtain rfl := Option.some.inj H
            go_wp2_with (first | ((with_reducible refine gate_callee (f := 21) rfl ?_); refine gcall (some 60) Tryd.func21 #[.slice Ao23 t111.length co23, .int .i64 1] rfl ?_; (with_reducible refine (laws_heldIntS.calls kj21 _ _ t111 1 t118 _ ?side1 ?side2 A33.out).mono ?_); (case side1 => repeat (first | exact (Kd.R_reads' HO_5.out).2.2 | (with_reducible refine Kd.C_alloc ?_ _) | (with_reducible refine Kd.C_drewN ?_ _) | (with_reducible refine Kd.C_drew ?_))); (case side2 => exact (Kd.R_reads' HO_5.out).2.1); rintro e w' ⟨rfl, ⟨nd, rfl⟩⟩; refine ⟨_, rfl, ?_⟩))
            go_ret
            exact ⟨by first | rfl | (simp [errW_none, errW_some] <;> rfl) | (simp [*, errW_none, errW_some] <;> rfl), bel HB⟩
      ·rw [if_neg c20] at H
       have c20b0 : (t112 == t110) = false := beq_eq_false_iff_ne.mpr c20
       have c20b1 : (t112 != t110) = true := bne_iff_ne.mpr c20
       obtain rfl := Option.some.inj H
       obtain ⟨Ao36, co36, eo36⟩ := Kd.R_slice HO_5.out
       subst eo36
       go_wp2_with (first | ((with_reducible refine gate_callee (f := 20) rfl ?_); refine gcall (some 35) Tryd.func20 #[.slice Ao36 t105.length co36, .int .i64 1] rfl ?_; (with_reducible refine (laws_markIntS.calls kj4 (fun k_ => some k_ = (.slice Ao36 t105.length co36 : Value).ownBlock) (.slice Ao36 t105.length co36) t105 1 t110 t111 w _ ?side1 ?side2 A15.out).mono ?_); (case side1 => repeat (first | (with_reducible first | exact HB.out | apply below_alloc | apply pw_below_drewN | apply below_drew1) | exact HB.out)); (case side2 => exact Kd.R_tight rfl HO_5.out); rintro e w37 ⟨rfl, hy0, hb, hkp⟩; refine ⟨_, rfl, ?_⟩; have n0_ := Aside0.mk (Kd.R_mono (ok' := fun k_ => some k_ ≠ (.slice Ao36 t105.length co36 : Value).ownBlock) (Kd.R_keptB (HO_3.out) hkp (fun k_ hk_ hs_ => (hk_) hs_)) (fun k_ hk_ => hk_.1)); have n1_ := Aside0.mk (Kd.R_reok rfl hy0 (fun k_ e_ => HO_5.out.1 k_ e_)); have n2_ := Aside0.mk (hb); clear HO_3; clear HO_5; clear HB; have HO_3 := n0_; have HO_5 := n1_; have HB := n2_; clear n0_ n1_ n2_; (try clear hb); (try clear hkp); (try clear hy0)) | ((with_reducible refine gate_callee (f := 21) rfl ?_); refine goesL_ (some 38) rfl rfl Tryd.func21 (by kernel_rfl) rfl #[.slice Ao36 t111.length co36, .int .i64 1] rfl (by (try simp only [List.map_toArray, List.map_cons, List.map_nil]); first | done | (rw [show t111.length = t105.length from (Kd.R_reads' HO_5.out).1.symm] <;> rfl) | rfl | (simp only [List.length_drop, List.length_take]; rfl)) ?_; (with_reducible refine (laws_heldIntS.calls kj4 _ _ t111 1 t112 _ ?side1 ?side2 A16.out).mono ?_); (case side1 => repeat (first | exact (Kd.R_reads' HO_5.out).2.2 | (with_reducible refine Kd.C_alloc ?_ _) | (with_reducible refine Kd.C_drewN ?_ _) | (with_reducible refine Kd.C_drew ?_))); (case side2 => rw [show t111.length = t105.length from (Kd.R_reads' HO_5.out).1.symm]; exact (Kd.R_reads' HO_5.out).2.1); rintro e w' ⟨rfl, ⟨nd, rfl⟩⟩; refine ⟨_, rfl, ?_⟩))
       go_ret
       exact ⟨by first | rfl | (simp [errW_none, errW_some] <;> rfl) | (simp [*, errW_none, errW_some] <;> rfl), bel HB⟩
end Go.Proofs.YtmefnfhghfemgaaDoor.Q
end
