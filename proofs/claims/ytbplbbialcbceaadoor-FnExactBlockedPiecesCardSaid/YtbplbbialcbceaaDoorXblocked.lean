/- impl.blocked: which pieces are blocked, as the program's three loops find it. -/
import Derived.Test.YtbplbbialcbceaaDoorXpiece
import Derived.Test.YtbplbbialcbceaaDoorXadded
import Derived.Laws.MakeOwn
namespace Go.Proofs.YtbplbbialcbceaaDoor.Q
open Go.RowKit Go.Proofs.YtbplbbialcbceaaDoorW.PrintWords Go.Proofs.YtbplbbialcbceaaDoorW.PrintLast Go.Proofs.YtbplbbialcbceaaDoorW.PrintMore
/-- One cell of a piece. -/
def bstep (w h : Int) (cs : List Int) (dir : Int) (P : List (List Int)) (i : Nat) (out : List Bool) (x : Int) : Option (List Bool) :=
  (impl_tray_ahead.f 1 w h cs x dir).bind fun nx => if nx < 0 then some (out.set i true) else if nx < (cs.length : Int) then (if rd cs nx = 35 then some (out.set i true) else if idxOf nx P < 0 then some out else if idxOf nx P < (out.length : Int) then (if rdOf false out (idxOf nx P) = true then some (out.set i true) else some out) else none) else none
def bpc (w h : Int) (cs : List Int) (dir : Int) (P : List (List Int)) (i : Nat) : List Int → List Bool → Option (List Bool)
  | [], out => some out
  | x :: l, out => (bstep w h cs dir P i out x).bind (bpc w h cs dir P i l)
def bps (w h : Int) (cs : List Int) (dir : Int) (P : List (List Int)) : List (List Int) → Nat → List Bool → Option (List Bool)
  | [], _, out => some out
  | p :: L, i, out => (bpc w h cs dir P i p out).bind (bps w h cs dir P L (i + 1))
def brn (w h : Int) (cs : List Int) (dir : Int) (P : List (List Int)) : Nat → List Bool → Option (List Bool)
  | 0, out => some out
  | n + 1, out => (bps w h cs dir P P 0 out).bind (brn w h cs dir P n)
def smallP (P : List (List Int)) : Bool := decide (P.length ≤ 1000) && P.all fun p => decide (p.length ≤ 1000)
def impl_tray_blocked.f (w h : Int) (cs : List Int) (P : List (List Int)) (dir : Int) : Option (List Bool) := if smallP P = true then brn w h cs dir P (P.length + 1) (List.replicate P.length false) else none
theorem wpList_makeBool {P : Program} {w w0 : World} {ops : Array Oper} {rest : List Oper} {o : Oper} {a : Act} {Q : Exit → Act → World → Prop} {B : Nat} (hgd : o.guard = none) (t : TypeId) (x y : Operand)
    (ho : o.op = .makeSlice t x y) (e : TypeId) (n : Nat) (hx : a.eval x = .int .i64 n) (hy : a.eval y = .int .i64 n) (ht : P.underlying t = some (.slice e)) (hinfo : (P.info? e).map (fun i => (i.zero, i.size, i.bytes)) = some (some (.bool false), 1, 1))
    (hn : n ≤ 1000) (HB : Below B w0 w) (hB : B ≤ w.heap.size)
    (h : ∀ g w', Aside0 (w'.heap[g]? = some (.cells ((List.replicate n false).map Value.bool).toArray e (0, 0))) → B ≤ g → Aside0 (Below B w0 w') → wpList P ops Q rest (a.put o.dst (.slice (some ⟨g, 0, none⟩) n n)) w') : wpList P ops Q (o :: rest) a w := by
  obtain ⟨i, hi, h2⟩ := Option.map_eq_some_iff.1 hinfo
  simp only [Prod.mk.injEq] at h2
  refine wpList_plain hgd fun K hK => ?_
  have hrun := run_makeSlice (P := P) w t e i (.bool false) ht hi h2.1 .i64 .i64 n n (by omega) (by omega) (by rw [h2.2.1]; simp; omega) (by rw [h2.2.2]; omega) (by omega)
  unfold Oper.wp
  simp only [Int.toNat_natCast] at hrun
  simp [execOp, ho, hx, hy, hrun, Result.andThen]
  refine hK _ _ (h _ _ ⟨?_⟩ hB ⟨below_then HB hB (below_alloc (Below.refl _ _) _)⟩)
  rw [heap_alloc_new, h2.2.1]
  congr 2
  simp [madeCells]
  apply Array.ext
  · simp
  · intro j h1 h2
    simp [Value.cells, Nat.mod_one]
structure BS (W1 wr : World) (go n : Nat) (out : List Bool) : Prop where
  below : Below W1.heap.size W1 wr
  row : wr.heap[go]? = some (.cells (out.map Value.bool).toArray 4 (0, 0))
  len : out.length = n
  ge : W1.heap.size ≤ go
section
variable {W1 wr w2 : World} {go n : Nat} {out : List Bool}
theorem BS.step (h : BS W1 wr go n out) (hb : Below wr.heap.size wr w2) : BS W1 w2 go n out := ⟨below_then h.below h.below.size hb, (hb.block _ (blk_lt h.row)).trans h.row, h.len, h.ge⟩
theorem BS.set (h : BS W1 wr go n out) (i : Nat) (b : Bool) : BS W1 (wr.setCell ⟨go, i, none⟩ (.bool b)) go n (out.set i b) := by
  refine ⟨below_set h.below h.ge, ?_, by rw [List.length_set]; exact h.len, h.ge⟩
  rw [blk_set h.row i (.bool b)]
  congr 2
  apply Array.ext'
  simp [List.map_set]
theorem BS.cell (h : BS W1 wr go n out) (i : Nat) (hi : i < out.length) : wr.cell? ⟨go, i, none⟩ = some (.bool (rdOf false out (i : Int))) := by
  rw [blk_cell h.row i]
  unfold rdOf
  simp [List.getD_eq_getElem?_getD, hi]
theorem BS.R (h : BS W1 wr go n out) {base : Nat} (hb : base ≤ W1.heap.size) (hn : n ≤ 1000) : Kd.R Kd.bool 4 wr base (fun _ => True) (.slice (some ⟨go, 0, none⟩) n n) out := by
  have hl := h.len
  subst hl
  refine Kd.R_of_own (enc := Value.bool) (show wr.ownsRow base 4 1 _ out.length (out.map Value.bool) from ⟨by simp, .inr ⟨go, out.length, (out.map Value.bool).toArray, rfl, Nat.le_trans hb h.ge, h.row, Nat.le_refl _, by simp [maxLen]; omega, by simp, List.take_of_length_le (by simp)⟩⟩) (fun _ _ => trivial)
end
theorem drop_get {α : Type} (L : List α) (d : α) (i : Nat) (h : i < L.length) : L.drop i = L.getD i d :: L.drop (i + 1) := by
  rw [List.drop_eq_getElem_cons h, List.getD_eq_getElem?_getD, List.getElem?_eq_getElem h]
  rfl
set_option maxHeartbeats 16000000 in
set_option maxRecDepth 100000 in
theorem impl_tray_blocked.calls (a0_0 a0_1 : Int) (A0_2 : Option Addr) (c0_2 : Nat) (l0_2 : List Int) (A1 : Option Addr) (c1 : Nat) (l1 : List (List Int)) (a2 : Int) (r : List Bool) (w : World) (hr0_2 : Kd.C (Kd.int .u8) w A0_2 l0_2.length l0_2) (hc0_2 : l0_2.length ≤ c0_2)
    (hr1 : Kd.C (Kd.slice 3 (Kd.int .i64)) w A1 l1.length l1) (_hc1 : l1.length ≤ c1) (h : impl_tray_blocked.f a0_0 a0_1 l0_2 l1 a2 = some r) :
    Calls Tryd.prog 46 #[.agg #[.int .i64 a0_0, .int .i64 a0_1, .slice A0_2 l0_2.length c0_2], .slice A1 l1.length c1, .int .u8 a2] w fun e w' => ∃ v0_ : Value, e = .returned (v0_) ∧ Kd.R Kd.bool 4 w' w.heap.size (fun _ => True) v0_ r ∧ Below w.heap.size w w' := by
  unfold impl_tray_blocked.f at h
  split at h
  case isFalse => cases h
  rename_i hsm
  simp only [smallP, Bool.and_eq_true, decide_eq_true_eq, List.all_eq_true] at hsm
  obtain ⟨hn, hp⟩ := hsm
  have HF := Aside0.mk h
  have HP := Aside0.mk hp
  have HR := Aside0.mk hr0_2
  have HC := Aside0.mk hc0_2
  have HR1 := Aside0.mk hr1
  have hu := Tryd.underlying45
  have epa : ∀ args w, (callFunc 76 args).run Tryd.prog w = .ok (.enter 76 args) w := enters_of Tryd.func76 (by kernel_rfl) rfl
  clear h hp hr0_2 hc0_2 hr1
  go_enter Tryd.func46, Tryd.ntmps46
  go_wp2_with (first
    | ((with_reducible refine gate_dst (N := 3) rfl ?_); refine box_event ?hg (N := 3) ?hd (cs := #[.int .i64 a0_0, .int .i64 a0_1, .slice A0_2 l0_2.length c0_2]) (t := 45) ?hr ?_; (case hd => rfl); (case hg => rfl); (case hr => first | (go_simp; done) | (go_simp; rfl)); intro gt hg w3 hbox hb; (have HB3 := Aside0.mk hb); (have HT := Aside0.mk hbox); clear hbox hb hg)
    | ((with_reducible refine gate_dst (N := 4) rfl ?_); refine box_event ?hg (N := 4) ?hd (cs := #[.slice A1 l1.length c1]) (t := 43) ?hr ?_; (case hd => rfl); (case hg => rfl); (case hr => first | (go_simp; done) | (go_simp; rfl)); intro gp hg w4 hbox hb; (have HB4 := Aside0.mk (below_then HB3.out HB3.out.size hb)); (have HT4 := Aside0.mk ((hb.block gt (blk_lt HT.out)).trans HT.out)); (have HPB := Aside0.mk hbox); clear hbox hb hg HT HB3; (have q0 := (blk_cell HPB.out 0).trans rfl))
    | ((with_reducible refine gate_dst (N := 17) rfl ?_); apply wpList_makeBool (w0 := w4) (B := w4.heap.size) (n := l1.length); (case hgd => rfl); (case ho => rfl); (case hx => rfl); (case hy => rfl); (case ht => exact Tryd.underlying61); (case hinfo => exact info4); (case hn => exact hn); (case HB => exact Below.refl _ _); (case hB => exact Nat.le_refl _); intro go w5 HG hgo HBo; (have q5 := (HBo.out.cell (p := ⟨gp, 0, none⟩) (blk_lt HPB.out)).trans q0)))
  have HS := Aside0.mk (BS.mk HBo.out HG.out (by simp) hgo : BS w4 w5 go l1.length (List.replicate l1.length false))
  have HX := Aside0.mk (Bx.mk ((blk_cell HT4.out 0).trans rfl) ((blk_cell HT4.out 1).trans rfl) ((blk_cell HT4.out 2).trans rfl) (blk_lt HT4.out) (Kd.C_below HR.out HB4.out) : Bx w4 gt a0_0 a0_1 A0_2 c0_2 l0_2)
  have HQ := Aside0.mk q0
  have HPL := Aside0.mk (blk_lt HPB.out)
  have HR4 := Aside0.mk (Kd.C_below HR1.out HB4.out)
  clear HG HBo hgo q0 q5 HT4 HPB HR HR1
  go_loopg [22] (l1.length + 1) (fun gg v22 wr => ∃ (t : Nat) (out : List Bool), v22 = .int .i64 t ∧ Aside0 (t ≤ l1.length + 1 ∧ l1.length + 1 - t ≤ gg ∧ brn a0_0 a0_1 l0_2 a2 l1 (l1.length + 1 - t) out = some r) ∧ Aside0 (BS w4 wr go l1.length out))
  case atStart => exact ⟨0, _, rfl, ⟨Nat.zero_le _, Nat.le_refl _, HF.out⟩, HS⟩
  case round =>
    clear HS HF
    obtain ⟨t, out, rfl, HA, HS⟩ := hrel
    obtain ⟨ht, hgg, hbr⟩ := HA.out
    have q5 := (HS.out.below.cell (p := ⟨gp, 0, none⟩) HPL.out).trans HQ.out
    by_cases hlt : t < l1.length + 1
    · have d1 : decide ((t : Int) < (l1.length : Int) + 1) = true := decide_eq_true (by omega)
      rw [show l1.length + 1 - t = (l1.length - t) + 1 by omega] at hbr
      obtain ⟨out2, hb2, hb3⟩ := Option.bind_eq_some_iff.1 (show (bps a0_0 a0_1 l0_2 a2 l1 l1 0 out).bind (brn a0_0 a0_1 l0_2 a2 l1 (l1.length - t)) = some r from hbr)
      have HB2 := Aside0.mk hb2
      have HB3 := Aside0.mk hb3
      clear hbr hb2 hb3
      have HGK := Aside0.mk (show l1.length + 1 - t ≤ gk ∧ t < l1.length + 1 from ⟨hgg, hlt⟩)
      clear hgg hlt ht HA
      go_wp2
      go_loopg [26] l1.length (fun gg v26 wr => ∃ (i : Nat) (o2 : List Bool), v26 = .int .i64 i ∧ Aside0 (i ≤ l1.length ∧ l1.length - i ≤ gg ∧ bps a0_0 a0_1 l0_2 a2 l1 (l1.drop i) i o2 = some out2) ∧ Aside0 (BS w4 wr go l1.length o2))
      case atStart => exact ⟨0, out, rfl, ⟨Nat.zero_le _, by omega, by rw [List.drop_zero]; exact HB2.out⟩, HS⟩
      case round =>
        clear HB2 HS q5 d1
        obtain ⟨i, o2, rfl, HA2, HS⟩ := hrel
        by_cases hli : i < l1.length
        · have c2 : decide ((i : Int) < (l1.length : Int)) = true := decide_eq_true (by omega)
          have p1 : (0 ≤ (i : Int)) = True := eq_true (by omega)
          have p2 : ((i : Int) < (l1.length : Int)) = True := eq_true (by omega)
          have hbp := HA2.out.2.2
          rw [drop_get l1 [] i hli] at hbp
          obtain ⟨o3, hb4, hb5⟩ := Option.bind_eq_some_iff.1 (show (bpc a0_0 a0_1 l0_2 a2 l1 i (l1.getD i []) o2).bind (bps a0_0 a0_1 l0_2 a2 l1 (l1.drop (i + 1)) (i + 1)) = some out2 from hbp)
          have HB4 := Aside0.mk hb4
          have HB5 := Aside0.mk hb5
          obtain ⟨ad, Ap, cp, e1, hx4, hlp, hCp⟩ := at_sl HR4.out i hli
          cases e1
          have hx := (HS.out.below.cell (World.block_lt_of_cell? _ _ hx4)).trans hx4
          have hpm : (l1.getD i []).length ≤ 1000 := by
            refine HP.out _ ?_
            rw [List.getD_eq_getElem?_getD, List.getElem?_eq_getElem hli]
            exact List.getElem_mem hli
          generalize l1.getD i [] = pc at hx hCp HB4 hpm hx4 hlp hb4
          have HCp := Aside0.mk hCp
          have HGK2 := Aside0.mk (show l1.length - i ≤ gk ∧ i < l1.length from ⟨HA2.out.2.1, hli⟩)
          have HB4p := Aside0.mk hb4
          clear hbp hb4 hb5 hlp hCp HA2 hli hx4
          go_wp2
          go_loopg [33] pc.length (fun gg v33 wr => ∃ (u : Nat) (o4 : List Bool), v33 = .int .i64 u ∧ Aside0 (u ≤ pc.length ∧ pc.length - u ≤ gg ∧ bpc a0_0 a0_1 l0_2 a2 l1 i (pc.drop u) o4 = some o3) ∧ Aside0 (BS w4 wr go l1.length o4))
          case atStart => exact ⟨0, o2, rfl, ⟨Nat.zero_le _, by omega, by rw [List.drop_zero]; exact HB4p.out⟩, HS⟩
          case round =>
            clear HB4p HS hx c2 p1 p2
            obtain ⟨u, o4, rfl, HA3, HS⟩ := hrel
            by_cases hlu : u < pc.length
            · have c3 : decide ((u : Int) < (pc.length : Int)) = true := decide_eq_true (by omega)
              have p3 : (0 ≤ (u : Int)) = True := eq_true (by omega)
              have p4 : ((u : Int) < (pc.length : Int)) = True := eq_true (by omega)
              have hbq := HA3.out.2.2
              rw [drop_get pc 0 u hlu] at hbq
              obtain ⟨o5, hb6, hb7⟩ := Option.bind_eq_some_iff.1 (show (bstep a0_0 a0_1 l0_2 a2 l1 i o4 (pc.getD u 0)).bind (bpc a0_0 a0_1 l0_2 a2 l1 i (pc.drop (u + 1))) = some o3 from hbq)
              obtain ⟨ad3, e3, hx3⟩ := Kd.at_int (Kd.C_below HCp.out HS.out.below) (u : Int) (by omega) (by omega)
              cases e3
              rw [Int.toNat_natCast] at hx3
              rw [show rd pc (u : Int) = pc.getD u 0 from by unfold rd; rw [Int.toNat_natCast]] at hx3
              generalize pc.getD u 0 = x at hx3 hb6
              have HGK3 := Aside0.mk (show pc.length - u ≤ gk ∧ u < pc.length from ⟨HA3.out.2.1, hlu⟩)
              have HB7 := Aside0.mk hb7
              have HB6 := Aside0.mk hb6
              clear hbq hb6 hb7 HA3 hlu
              obtain ⟨nx, hnx, hb8⟩ := Option.bind_eq_some_iff.1 (show (impl_tray_ahead.f 1 a0_0 a0_1 l0_2 x a2).bind (fun nx => if nx < 0 then some (o4.set i true) else if nx < (l0_2.length : Int) then (if rd l0_2 nx = 35 then some (o4.set i true) else if idxOf nx l1 < 0 then some o4 else if idxOf nx l1 < (o4.length : Int) then (if rdOf false o4 (idxOf nx l1) = true then some (o4.set i true) else some o4) else none) else none) = some o5 from HB6.out)
              have HNX := Aside0.mk hnx
              have H8 := Aside0.mk hb8
              have hXX := HX.out.below HS.out.below
              obtain ⟨z0, z1, z2, _, _⟩ := hXX
              clear hnx hb8 HB6
              go_wp2_with fail
              refine (impl_tray_ahead.calls 1 a0_0 a0_1 _ c0_2 l0_2 x a2 nx _ (Kd.C_below HX.out.reads HS.out.below) HC.out HNX.out).mono ?_
              rintro e w6 ⟨rfl, hb9⟩
              have HS6 := Aside0.mk (HS.out.step hb9)
              clear HS hx3 z0 z1 z2 hb9 HNX
              have hXX := HX.out.below HS6.out.below
              obtain ⟨z0, z1, z2, _, _⟩ := hXX
              have q5 := (HS6.out.below.cell (p := ⟨gp, 0, none⟩) HPL.out).trans HQ.out
              have hli2 : i < o4.length := by rw [HS6.out.len]; exact HGK2.out.2
              have hs5 := HS6.out.cell i hli2
              have hf5 := blk_frozen HS6.out.row i
              have hol := HS6.out.len
              have p1 : (0 ≤ (i : Int)) = True := eq_true (by omega)
              have p2 : ((i : Int) < (l1.length : Int)) = True := eq_true (by have := HGK2.out; omega)
              by_cases hneg : nx < 0
              · have d4 : decide (nx < 0) = true := decide_eq_true hneg
                obtain rfl : o4.set i true = o5 := Option.some.inj ((if_pos hneg).symm.trans H8.out)
                clear H8
                go_wp2
                go_roundg (pc.length - (u + 1))
                case measure => have := HGK3.out; omega
                case rel => exact ⟨u + 1, _, by first | rfl | rw [wrap64_small u (by have := HGK3.out; omega)] | simp, ⟨by have := HGK3.out; omega, Nat.le_refl _, HB7.out⟩, ⟨HS6.out.set i true⟩⟩
              · have d4 : decide (nx < 0) = false := decide_eq_false hneg
                have h9 := (if_neg hneg).symm.trans H8.out
                by_cases hlen : nx < (l0_2.length : Int)
                case neg => exact absurd ((if_neg hlen).symm.trans h9) (by simp)
                have h10 := (if_pos hlen).symm.trans h9
                have HN := Aside0.mk (show 0 ≤ nx ∧ nx < (l0_2.length : Int) from ⟨by omega, hlen⟩)
                have p5 : (0 ≤ nx) = True := eq_true HN.out.1
                have p6 : (nx < (l0_2.length : Int)) = True := eq_true hlen
                obtain ⟨ad5, e5, hx5⟩ := Kd.at_int (HX.out.below HS6.out.below).reads nx HN.out.1 hlen
                clear h9 H8 hneg hlen
                cases e5
                generalize rd l0_2 nx = b at h10 hx5
                by_cases hw : b = 35
                · have d5 : (b == 35) = true := beq_iff_eq.2 hw
                  obtain rfl : o4.set i true = o5 := Option.some.inj ((if_pos hw).symm.trans h10)
                  clear h10 hw
                  go_wp2
                  go_roundg (pc.length - (u + 1))
                  case measure => have := HGK3.out; omega
                  case rel => exact ⟨u + 1, _, by first | rfl | rw [wrap64_small u (by have := HGK3.out; omega)] | simp, ⟨by have := HGK3.out; omega, Nat.le_refl _, HB7.out⟩, ⟨HS6.out.set i true⟩⟩
                · have d5 : (b == 35) = false := beq_eq_false_iff_ne.2 hw
                  have h11 := (if_neg hw).symm.trans h10
                  have hcall := pieceAt_calls gp nx _ c1 l1 w6 hn HP.out (Kd.C_below HR4.out HS6.out.below) (Nat.lt_of_lt_of_le HPL.out HS6.out.below.size) q5
                  clear h10 hw q5
                  generalize idxOf nx l1 = y at h11 hcall
                  have HCALL := Aside0.mk hcall
                  clear hcall
                  by_cases hy : y < 0
                  · have d6 : decide (0 ≤ y) = false := decide_eq_false (by omega)
                    have d7 : decide (y ≥ 0) = false := decide_eq_false (by omega)
                    obtain rfl : o4 = o5 := Option.some.inj ((if_pos hy).symm.trans h11)
                    clear h11
                    go_wp2_with (go_at_call 76; refine HCALL.out.mono ?_; rintro e w7 ⟨rfl, hb9⟩; have HS7 := Aside0.mk (HS6.out.step hb9); clear hx5 z0 z1 z2 hb9 hs5 hf5; have hs5 := HS7.out.cell i hli2; have hf5 := blk_frozen HS7.out.row i)
                    go_roundg (pc.length - (u + 1))
                    case measure => have := HGK3.out; omega
                    case rel => exact ⟨u + 1, _, by first | rfl | rw [wrap64_small u (by have := HGK3.out; omega)] | simp, ⟨by have := HGK3.out; omega, Nat.le_refl _, HB7.out⟩, HS7⟩
                  · have d6 : decide (0 ≤ y) = true := decide_eq_true (by omega)
                    have d7 : decide (y ≥ 0) = true := decide_eq_true (by omega)
                    have h13 := (if_neg hy).symm.trans h11
                    by_cases hyl : y < (o4.length : Int)
                    case neg => exact absurd ((if_neg hyl).symm.trans h13) (by simp)
                    have h14 := (if_pos hyl).symm.trans h13
                    have p7 : (0 ≤ y) = True := eq_true (by omega)
                    have p8 : (y < (l1.length : Int)) = True := eq_true (by rw [← hol]; exact hyl)
                    obtain ⟨yn, rfl⟩ := Int.eq_ofNat_of_zero_le (show 0 ≤ y by omega)
                    have hyn : yn < o4.length := by omega
                    clear hyl h13 h11 hy
                    cases hbb : rdOf false o4 (yn : Int) with
                    | true =>
                      rw [hbb] at h14
                      obtain rfl : o4.set i true = o5 := Option.some.inj ((if_pos rfl).symm.trans h14)
                      clear h14
                      go_wp2_with (go_at_call 76; refine HCALL.out.mono ?_; rintro e w7 ⟨rfl, hb9⟩; have HS7 := Aside0.mk (HS6.out.step hb9); clear hx5 z0 z1 z2 hb9 hs5 hf5; have hs5 := HS7.out.cell i hli2; have hf5 := blk_frozen HS7.out.row i; have hs6 := HS7.out.cell yn hyn; rw [hbb] at hs6)
                      go_roundg (pc.length - (u + 1))
                      case measure => have := HGK3.out; omega
                      case rel => exact ⟨u + 1, _, by first | rfl | rw [wrap64_small u (by have := HGK3.out; omega)] | simp, ⟨by have := HGK3.out; omega, Nat.le_refl _, HB7.out⟩, ⟨HS7.out.set i true⟩⟩
                    | false =>
                      rw [hbb] at h14
                      obtain rfl : o4 = o5 := Option.some.inj ((if_neg (by simp)).symm.trans h14)
                      clear h14
                      go_wp2_with (go_at_call 76; refine HCALL.out.mono ?_; rintro e w7 ⟨rfl, hb9⟩; have HS7 := Aside0.mk (HS6.out.step hb9); clear hx5 z0 z1 z2 hb9 hs5 hf5; have hs5 := HS7.out.cell i hli2; have hf5 := blk_frozen HS7.out.row i; have hs6 := HS7.out.cell yn hyn; rw [hbb] at hs6)
                      go_roundg (pc.length - (u + 1))
                      case measure => have := HGK3.out; omega
                      case rel => exact ⟨u + 1, _, by first | rfl | rw [wrap64_small u (by have := HGK3.out; omega)] | simp, ⟨by have := HGK3.out; omega, Nat.le_refl _, HB7.out⟩, HS7⟩
            · have hiq := HA3.out
              obtain rfl : u = pc.length := by omega
              have c3 : decide ((pc.length : Int) < (pc.length : Int)) = false := decide_eq_false (by omega)
              have he := hiq.2.2
              rw [List.drop_length] at he
              obtain rfl : o4 = o3 := Option.some.inj he
              clear hiq he HA3
              go_wp2
              go_roundg (l1.length - (i + 1))
              case measure => have := HGK2.out; omega
              case rel => exact ⟨i + 1, o4, by first | rfl | rw [wrap64_small i (by have := HGK2.out; omega)] | simp, ⟨by have := HGK2.out; omega, Nat.le_refl _, HB5.out⟩, HS⟩
        · have hiq := HA2.out
          obtain rfl : i = l1.length := by omega
          have c2 : decide ((l1.length : Int) < (l1.length : Int)) = false := decide_eq_false (by omega)
          have he := hiq.2.2
          rw [List.drop_length] at he
          obtain rfl : o2 = out2 := Option.some.inj he
          clear hiq he HA2
          go_wp2
          go_roundg (l1.length + 1 - (t + 1))
          case measure => have := HGK.out; omega
          case rel => exact ⟨t + 1, o2, by first | rfl | rw [wrap64_small t (by have := HGK.out; omega)] | simp, ⟨by have := HGK.out; omega, Nat.le_refl _, by rw [show l1.length + 1 - (t + 1) = l1.length - t by omega]; exact HB3.out⟩, HS⟩
    · obtain rfl : t = l1.length + 1 := by omega
      have d1 : decide (((l1.length + 1 : Nat) : Int) < (l1.length : Int) + 1) = false := decide_eq_false (by omega)
      have he : some out = some r := by simpa [brn] using hbr
      obtain rfl := Option.some.inj he
      clear he hbr
      go_wp2
      go_ret
      exact ⟨_, rfl, HS.out.R HB4.out.size hn, below_then HB4.out HB4.out.size HS.out.below⟩
end Go.Proofs.YtbplbbialcbceaaDoor.Q
