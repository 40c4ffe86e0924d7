/- Texts of this claim, joined. -/
import Derived.Test.YtchkmhbngbgjnaaGreatDoorJFarthestOf06
import Derived.Test.YtchkmhbngbgjnaaGreatDoorJFarthestOf01
import Derived.Test.YtchkmhbngbgjnaaGreatDoorJFarthestOf05
set_option linter.unusedVariables false
set_option linter.unusedSimpArgs false
set_option linter.unusedSectionVars false
section
namespace Go.Proofs.YtchkmhbngbgjnaaGreatDoor.Q
set_option linter.unusedSectionVars false
set_option linter.unusedSimpArgs false
open Go.RowKit Go.Proofs.YtchkmhbngbgjnaaGreatDoorW.PrintWords Go.Proofs.YtchkmhbngbgjnaaGreatDoorW.PrintLast Go.Proofs.YtchkmhbngbgjnaaGreatDoorW.PrintMore
theorem zAt_map {M : List Zm} {i : Nat} {m : Zm} (h : M[i]? = some m) : zAt (M.map Zm.z) i = m.z := by
 unfold zAt
 rw [List.getD_eq_getElem?_getD, List.getElem?_map, h]
 rfl
theorem SB.made {w1 w2 : World} {v : Value} {g : Nat} {vg : Value} {z : Zs} {B : Nat} (hz : z.next = []) (hg : B ≤ g) (hb : w1.heap[g]? = some (.cells (zCells z vg (.slice none 0 0)) 47 (0, 0))) (hr : Kd.R (Kd.int .u8) 5 w1 B (fun _ => True) vg z.cs) (hb2 : Below w1.heap.size w1 w2) (hv : Kd.R ptK 42 w2 B (fun _ => True) v [g]) : SB w2 B v [⟨g, vg, .slice none 0 0, z⟩] where
 row := hv
 ok := fun m hm => by
  rw [List.mem_singleton.1 hm]
  exact okZ.below ⟨hg, hb, hr, by rw [hz]; exact Kd.R_nil _ _ _ _ _⟩ hb2
 nodup := by simp
 apart := List.pairwise_singleton _ _
theorem SB.more {w10 w1 : World} {B n : Nat} {v v1 vg : Value} {M : List Zm} {z : Zs} (h : SB w10 B v M) (hB : B ≤ w10.heap.size) (hz : z.next = []) (hgr : Kd.R (Kd.int .u8) 5 w10 B (fun _ => True) vg z.cs) (hg : ((w10.drewN n).alloc (.cells (zCells z vg (.slice none 0 0)) 47)).grownBy w1 v.ownBlock)
  (hr : Kd.R ptK 42 w1 B (fun _ => True) v1 (M.map Zm.g ++ [w10.heap.size])) : SB w1 B v1 (M ++ [⟨w10.heap.size, vg, .slice none 0 0, z⟩]) := by
 have hb : Below w10.heap.size w10 ((w10.drewN n).alloc (.cells (zCells z vg (.slice none 0 0)) 47)) := below_alloc (pw_below_drewN (Below.refl _ w10) n) _
 refine (h.below hb).add ⟨hB, World.alloc_heap_new (w10.drewN n) _, Kd.R_below hgr hb, by rw [hz]; exact Kd.R_nil _ _ _ _ _⟩ (fun x hx => ?_) rfl hg (by rw [List.map_append]; exact hr)
 have := blk_lt (h.ok x hx).blk
 show x.g ≠ w10.heap.size
 omega
theorem alloc_then {w w1 : World} {o : Obj} (hb : Below (w.alloc o).heap.size (w.alloc o) w1) : Below w.heap.size w w1 ∧ w1.heap[w.heap.size]? = some o := by
 have h0 := below_alloc (Below.refl _ w) o
 have h1 := World.alloc_heap_new w o
 exact ⟨below_then h0 h0.size hb, (hb.block _ (blk_lt h1)).trans h1⟩
theorem SB.drewn {w : World} {B : Nat} {v : Value} {M : List Zm} (h : SB w B v M) (n : Nat) : SB (w.drewN n) B v M := h.below (pw_below_drewN (Below.refl _ _) n)
theorem SB.word {w : World} {B : Nat} {v : Value} {M : List Zm} (h : SB w B v M) {j : Nat} {m : Zm} (hm : M[j]? = some m) (x : Int) : SB (w.setCell ⟨m.g, 5, none⟩ (.int .i64 x)) B v (M.set j { m with z := { m.z with words := x } }) :=
 h.put hm 5 _ rfl rfl ⟨(h.at hm).base, blk_put (h.at hm).blk 5 _ rfl, Kd.R_set (h.at hm).grid (h.at hm).blk (by decide) 5 _, Kd.R_set (h.at hm).next (h.at hm).blk (by decide) 5 _⟩
theorem map_z_set (M : List Zm) (j : Nat) (m : Zm) : (M.set j m).map Zm.z = (M.map Zm.z).set j m.z := List.map_set ..
theorem touch_yes {M : List Zm} {i j : Nat} {m mj mi : Zm} (hj : M[j]? = some mj) (hi : M[i]? = some m) (he : mj.z.far = wrap64 (m.z.far + 1)) {M2 : List Zm} (h2 : M2 = M.set j { mj with z := { mj.z with words := wrap64 (mj.z.words + m.z.words) } }) (hi2 : M2[i]? = some mi) (v : Value) : zTouch (M.map Zm.z) i j = (M2.set i { mi with vn := v, z := { mi.z with next := mi.z.next ++ [(j : Int)] } }).map Zm.z := by
 unfold zTouch zWords zNext
 rw [zAt_map hj, zAt_map hi, if_pos he, map_z_set, ← map_z_set M j { mj with z := { mj.z with words := wrap64 (mj.z.words + m.z.words) } }, ← h2, zAt_map hi2]
theorem touch_no {M : List Zm} {i j : Nat} {m mj : Zm} (hj : M[j]? = some mj) (hi : M[i]? = some m) (he : ¬ mj.z.far = wrap64 (m.z.far + 1)) (v : Value) : zTouch (M.map Zm.z) i j = (M.set i { m with vn := v, z := { m.z with next := m.z.next ++ [(j : Int)] } }).map Zm.z := by
 unfold zTouch zWords zNext
 rw [zAt_map hj, zAt_map hi, if_neg he, map_z_set, zAt_map hi]
theorem zPlace_lt : ∀ (L : List Zs) (t : ByteArray) (k : Nat), 0 ≤ zPlace L t k → zPlace L t k < ((k + L.length : Nat) : Int)
 | [], t, k, h => by
  rw [zPlace] at h
  omega
 | z :: L, t, k, h => by
  rw [zPlace] at h ⊢
  rw [List.length_cons]
  by_cases e : z.text.toList = t.toList
  ·rw [if_pos e]
   omega
  ·rw [if_neg e] at h ⊢
   have := zPlace_lt L t (k + 1) h
   omega
theorem set_at {M : List Zm} {i j : Nat} {m mj mj' : Zm} (hi : M[i]? = some m) (hj : M[j]? = some mj) (hg : mj'.g = mj.g) (hn : mj'.z.next = mj.z.next) : ∃ mi, (M.set j mj')[i]? = some mi ∧ mi.g = m.g ∧ mi.z.next = m.z.next := by
 rw [List.getElem?_set]
 by_cases e : j = i
 ·subst e
  rw [if_pos rfl, if_pos (List.getElem?_eq_some_iff.1 hj).1]
  rw [hi] at hj
  cases hj
  exact ⟨mj', rfl, hg, hn⟩
 ·rw [if_neg e]
  exact ⟨m, hi, rfl, rfl⟩
set_option maxHeartbeats 16000000 in
set_option maxRecDepth 100000 in
theorem spec_reAll.calls (k : Nat) (a0 : ByteArray) (r1 : List Zs) (r2 : Bool) (w : World) (h : spec_reAll.f k a0 = some (r1, r2)) :
  Calls Tryz.prog 30 #[.string a0] w fun e w' => ∃ (A : Option Addr) (c : Nat), e = .returned (.tuple #[.slice A r1.length c, .bool r2]) ∧ r1.length ≤ c ∧ r1.length ≤ 300 ∧ StC w' A r1 ∧ Below w.heap.size w w' := by
 unfold spec_reAll.f at h
 obtain ⟨⟨gw, gh, gc, gok⟩, ht, h⟩ := Option.bind_eq_some_iff.1 h
 have HT := Aside0.mk ht
 clear ht
 cases gok with
 | false =>
  rw [if_neg Bool.false_ne_true] at h
  simp only [Option.some.injEq, Prod.mk.injEq] at h
  obtain ⟨rfl, rfl⟩ := h
  go_enter Tryz.func30, Tryz.ntmps30
  go_wp2_with (first
   | (go_at_call 46; refine (spec_tyRead.calls k a0 gw gh gc false _ HT.out).mono ?_; rintro e w1 ⟨v1, rfl, ho1, hb1⟩; (have HB1 := Aside0.mk hb1); (obtain ⟨A1, c1, e1⟩ := Kd.R_slice ho1); subst e1; clear ho1 hb1)
   | ((with_reducible refine gate_dst (N := 4) rfl ?_); refine box_event ?hg (N := 4) ?hd (cs := #[.int .i64 0, .int .i64 0, .slice none 0 0]) (t := 45) ?hr ?_; (case hd => rfl); (case hg => rfl); (case hr => first | (go_simp; done) | (go_simp; rfl)); intro go hg w5 hbox hb; (have HB5 := Aside0.mk (below_then HB1.out HB1.out.size hb)); (have HGE := Aside0.mk (show w.heap.size ≤ go by rw [hg]; exact HB1.out.size)); (have f0 := blk_frozen hbox 0); (have f1 := blk_frozen hbox 1); (have f2 := blk_frozen hbox 2); (have y0 := (blk_cell hbox 0).trans rfl); (have y1 := (blk_cell hbox 1).trans rfl); (have y2 := (blk_cell hbox 2).trans rfl); clear hbox hb hg))
  go_ret2
  exact ⟨none, 0, rfl, Nat.le_refl _, Nat.zero_le _, ⟨fun i z hz => by simp at hz⟩, below_set (below_set (below_set HB5.out HGE.out) HGE.out) HGE.out⟩
 | true =>
  rw [if_pos rfl] at h
  have HA0 := Aside0.mk h
  clear h
  go_enter Tryz.func30, Tryz.ntmps30
  go_wp2_with (first
   | (go_at_call 46; refine (spec_tyRead.calls k a0 gw gh gc true _ HT.out).mono ?_; rintro e w1 ⟨v1, rfl, ho1, hb1⟩; (have HB1 := Aside0.mk hb1); (obtain ⟨A1, c1, e1⟩ := Kd.R_slice ho1); subst e1; (have HO1 := Aside0.mk ho1); clear ho1 hb1)
   | ((with_reducible refine gate_dst (N := 4) rfl ?_); refine box_event ?hg (N := 4) ?hd (cs := #[.int .i64 0, .int .i64 0, .slice none 0 0]) (t := 45) ?hr ?_; (case hd => rfl); (case hg => rfl); (case hr => first | (go_simp; done) | (go_simp; rfl)); intro go hg w5 hbox hb; (have HB5 := Aside0.mk (below_then HB1.out HB1.out.size hb)); (have HGE := Aside0.mk (show w.heap.size ≤ go by rw [hg]; exact HB1.out.size)); (have HO5 := Aside0.mk (Kd.R_below HO1.out hb)); (have HU := Aside0.mk hbox); (have f0 := blk_frozen HU.out 0); (have f1 := blk_frozen HU.out 1); (have f2 := blk_frozen HU.out 2); (have y0 := (blk_cell HU.out 0).trans rfl); (have y1 := (blk_cell HU.out 1).trans rfl); (have y2 := (blk_cell HU.out 2).trans rfl); clear hbox hb hg HO1)
   | ((with_reducible refine gate_store (t := 45) (p := 4) rfl ?_); refine store_event (t := 45) (p := 4) (v := ?vo) (w1 := (((w5.setCell ⟨go, 0, none⟩ (.int .i64 gw)).setCell ⟨go, 1, none⟩ (.int .i64 gh)).setCell ⟨go, 2, none⟩ (.slice A1 gc.length c1))) ?hg ?ho ?hn ?hr ?_; (case ho => rfl); (case hg => rfl); (case hn => rfl); (case hr => first | (go_simp; done) | (go_simp; rfl)); intro w6 hw; (have HB6 := Aside0.mk (show Below w.heap.size w w6 by rw [hw]; exact below_set (below_set (below_set HB5.out HGE.out) HGE.out) HGE.out)); (have HU6 := Aside0.mk (show w6.heap[go]? = some (.cells #[.int .i64 gw, .int .i64 gh, .slice A1 gc.length c1] 45 (0, 0)) by rw [hw]; refine blk_put (cs := #[.int .i64 gw, .int .i64 gh, .slice none 0 0]) ?_ 2 _ rfl; refine blk_put (cs := #[.int .i64 gw, .int .i64 0, .slice none 0 0]) ?_ 1 _ rfl; refine blk_put (cs := #[.int .i64 0, .int .i64 0, .slice none 0 0]) ?_ 0 _ rfl; exact HU.out)); (have HO6 := Aside0.mk (show Kd.R (Kd.int .u8) 5 w6 w.heap.size (fun _ => True) (.slice A1 gc.length c1) gc by rw [hw]; exact R_all (Kd.R_far (p := ⟨go, 2, none⟩) (Kd.R_far (p := ⟨go, 1, none⟩) (Kd.R_far (p := ⟨go, 0, none⟩) (Kd.R_types HO5.out HU.out (by decide)) (fun _ hk => hk.2) (.int .i64 gw)) (fun _ hk => hk.2) (.int .i64 gh)) (fun _ hk => hk.2) (.slice A1 gc.length c1)))); clear hw HB5 HU HO5 y0 y1 y2 f0 f1 f2; (have y0 := (blk_cell HU6.out 0).trans rfl); (have y1 := (blk_cell HU6.out 1).trans rfl); (have y2 := (blk_cell HU6.out 2).trans rfl))
   | ((with_reducible refine gate_dst (N := 23) rfl ?_); refine box_event ?hg (N := 23) ?hd (cs := zCells ⟨gw, gh, gc, a0, 0, 1, -1, 0, []⟩ (.slice A1 gc.length c1) (.slice none 0 0)) (t := 47) ?hr ?_; (case hd => rfl); (case hg => rfl); (case hr => first | (go_simp; done) | (go_simp; rfl)); intro gs hg w7 hbox hb; (have HB7 := Aside0.mk (below_then HB6.out HB6.out.size hb)); (have HGS := Aside0.mk (show w.heap.size ≤ gs by rw [hg]; exact HB6.out.size)); (have HO7 := Aside0.mk (Kd.R_below HO6.out hb)); (have HS7 := Aside0.mk hbox); clear hbox hb hg HO6 HU6 HB6 y0 y1 y2)
   | ((with_reducible refine gate_dst (N := 24) rfl ?_); refine R_litG ptK w.heap.size 42 ?hg (N := 24) ?hd (xs := [gs]) (inner := [.pointer (some ⟨gs, 0, none⟩)]) (ok := fun _ => True) (okp := fun _ => True) ?hr ?hp (fun _ hk => hk) trivial HB7.out HB7.out.size (by simp) ?_; (case hd => rfl); (case hg => first | rfl | decide | (simp [Region.wanted, yielded]; done) | (go_simp; done)); (case hr => first | (go_simp; done) | (go_simp; rfl)); (case hp => exact (Reps.one (show Kd.M ptK _ _ _ gs [.pointer (some ⟨gs, 0, none⟩)] from rfl) (Reps.none _ _))); intro v8 w8 ho8 hb8 hg8 hn8))
  have HS8 := Aside0.mk (SB.made (z := ⟨gw, gh, gc, a0, 0, 1, -1, 0, []⟩) rfl HGS.out HS7.out HO7.out (below_none hg8) (R_all ho8))
  have HB8 := Aside0.mk hb8
  clear ho8 hb8 hg8 hn8 HS7 HO7 HB7
  go_loopg [6, 7] 301 (fun gg v6 v7 wr => ∃ (i : Nat) (vv : Value) (M : List Zm), v6 = vv ∧ v7 = .int .i64 i ∧ Aside0 ((i ≤ M.length ∧ M.length ≤ 300 ∧ 301 - i ≤ gg) ∧ reA k (301 - i) i (M.map Zm.z) = some (r1, r2)) ∧ Aside0 (SB wr w.heap.size vv M) ∧ Aside0 (Below w.heap.size w wr))
  case atStart => exact ⟨0, v8, [⟨gs, .slice A1 gc.length c1, .slice none 0 0, ⟨gw, gh, gc, a0, 0, 1, -1, 0, []⟩⟩], rfl, by first | rfl | (simp; done), ⟨⟨Nat.zero_le _, by simp, Nat.le_refl _⟩, HA0.out⟩, HS8, HB8⟩
  case round =>
   clear HS8 HB8 HA0
   obtain ⟨i, vv, M, rfl, rfl, HA, HS, HB⟩ := hrel
   obtain ⟨AL, cL, eL, hcL, hstL, hptL⟩ := HS.out.read
   by_cases hli : i < M.length
   ·have c2 : decide ((i : Int) < (M.length : Int)) = true := decide_eq_true (by omega)
    have p1 : (0 ≤ (i : Int)) = True := eq_true (by omega)
    have p2 : ((i : Int) < (M.length : Int)) = True := eq_true (by omega)
    have hsp := HA.out.2
    rw [show 301 - i = (300 - i) + 1 by have := HA.out.1; omega, reA, if_pos (by rw [List.length_map]; exact hli)] at hsp
    obtain ⟨m, hm⟩ : ∃ m, M[i]? = some m := ⟨_, List.getElem?_eq_getElem hli⟩
    obtain ⟨ad, e1, h2⟩ := hptL i m hm
    cases e1
    have HSP := Aside0.mk hsp
    have HGK := Aside0.mk (show i < M.length ∧ M.length ≤ 300 ∧ 301 - i ≤ gk from ⟨hli, HA.out.1.2.1, HA.out.1.2.2⟩)
    subst eL
    clear hsp HA hli hstL hptL
    have HGM := Aside0.mk (show ∃ x, M[i]? = some x ∧ x.g = m.g from ⟨m, hm, rfl⟩)
    generalize m.g = gi at h2 HGM
    clear hm
    go_wp2_with fail
    go_loopg [6, 9] 4 (fun gg v6 v9 wr => ∃ (d : Nat) (vv : Value) (M : List Zm), v6 = vv ∧ v9 = .int .i64 d ∧ Aside0 (((d ≤ 4 ∧ 4 - d ≤ gg) ∧ (i < M.length ∧ M.length ≤ 300) ∧ ∃ x, M[i]? = some x ∧ x.g = gi) ∧ reS k (fun L => reA k (300 - i) (i + 1) L) i (4 - d) d (M.map Zm.z) = some (r1, r2)) ∧ Aside0 (SB wr w.heap.size vv M) ∧ Aside0 (Below w.heap.size w wr))
    case atStart => exact ⟨0, _, M, rfl, by first | rfl | (simp; done), ⟨⟨⟨Nat.zero_le _, Nat.le_refl _⟩, ⟨HGK.out.1, HGK.out.2.1⟩, HGM.out⟩, HSP.out⟩, HS, HB⟩
    case round =>
     clear HS HB HSP HGM h2 c2 p1 p2
     obtain ⟨d, vv, M, rfl, rfl, HA, HS, HB⟩ := hrel
     by_cases hd : d < 4
     ·have c3 : decide ((d : Int) < 4) = true := decide_eq_true (by omega)
      obtain ⟨⟨⟨_, hgk⟩, ⟨hil, hml⟩, m, hm, rfl⟩, hsp⟩ := HA.out
      rw [show 4 - d = (3 - d) + 1 by omega, reS, zAt_map hm] at hsp
      split at hsp
      case isFalse => cases hsp
      rename_i hnl
      have HNL0 := Aside0.mk hnl
      clear hnl
      obtain ⟨⟨ow, oh, oc⟩, htl, hsp⟩ := Option.bind_eq_some_iff.1 hsp
      obtain ⟨tx, htx, hsp⟩ := Option.bind_eq_some_iff.1 hsp
      have HTL := Aside0.mk htl
      have HTX := Aside0.mk htx
      have HSP := Aside0.mk hsp
      have HM := Aside0.mk hm
      have HGK2 := Aside0.mk (show (4 - d ≤ gk ∧ d < 4) ∧ i < M.length ∧ M.length ≤ 300 from ⟨⟨hgk, hd⟩, hil, hml⟩)
      obtain ⟨Ag, cg, eg, hcg, hCg⟩ := Kd.R_reads (HS.out.at hm).grid
      have HCG := Aside0.mk (show oc.length ≤ oc.length ∧ m.z.cs.length ≤ cg ∧ Kd.C (Kd.int .u8) wr Ag m.z.cs.length m.z.cs from ⟨Nat.le_refl _, hcg, hCg⟩)
      have y0 : wr.cell? ⟨m.g, 0, none⟩ = some (.int .i64 m.z.w) := (blk_cell (HS.out.at hm).blk 0).trans rfl
      have y1 : wr.cell? ⟨m.g, 1, none⟩ = some (.int .i64 m.z.h) := (blk_cell (HS.out.at hm).blk 1).trans rfl
      have y2 : wr.cell? ⟨m.g, 2, none⟩ = some (.slice Ag m.z.cs.length cg) := by rw [← eg]; exact (blk_cell (HS.out.at hm).blk 2).trans rfl
      clear htl htx hsp hm HA hgk hil hml hcg hCg eg hd
      by_cases hneg : zPlace (M.map Zm.z) tx 0 < 0
      ·have c4 : decide (zPlace (M.map Zm.z) tx 0 < 0) = true := decide_eq_true hneg
       have hsp := HSP.out
       rw [if_pos hneg, List.length_map] at hsp
       by_cases h300 : M.length = 300
       ·have c5 : ((M.length : Int) == 300) = true := beq_iff_eq.mpr (by omega)
        rw [if_pos h300] at hsp
        simp only [Option.some.injEq, Prod.mk.injEq] at hsp
        obtain ⟨rfl, rfl⟩ := hsp
        clear hneg h300 HSP
        go_wp2_with (first
         | (go_at_call 47; refine (spec_tiTilt.calls k m.z.w m.z.h Ag cg m.z.cs d ow oh oc _ HCG.out.2.2 HCG.out.2.1 HTL.out).mono ?_; rintro e w9 ⟨v9, rfl, ho9, hb9⟩; (have HS9 := Aside0.mk (HS.out.below hb9)); (have HB9 := Aside0.mk (below_then HB.out HB.out.size hb9)); (obtain ⟨A9, c9, e9⟩ := Kd.R_slice ho9); subst e9; (have HO9 := Aside0.mk (Kd.R_lower ho9 HB.out.size)); clear ho9 hb9 HS HB HCG y0 y1 y2)
         | (go_at_call 48; refine (spec_tyText.calls k ow oh A9 c9 oc tx _ (Kd.C_below (Kd.R_reads' HO9.out).2.2 (below_alloc (Below.refl _ _) _)) (Kd.R_reads' HO9.out).2.1 HTX.out).mono ?_; rintro e w10 ⟨rfl, hb10⟩; (obtain ⟨hb10, hk10⟩ := alloc_then hb10); (have HU10 := Aside0.mk hk10); (have HGB := Aside0.mk HB9.out.size); clear hk10; (have HS10 := Aside0.mk (HS9.out.below hb10)); (have HB10 := Aside0.mk (below_then HB9.out HB9.out.size hb10)); (have HO10 := Aside0.mk (Kd.R_below HO9.out hb10)); clear hb10 HS9 HB9 HO9; (generalize w9.heap.size = gt at HU10 HGB ⊢); (obtain ⟨A10, c10, e10, hc10, hst10, _⟩ := HS10.out.read); subst e10; (have HST := Aside0.mk hst10); (have HCC := Aside0.mk hc10); clear hst10 hc10)
         | (go_at_call 49; refine (spec_rePlace.calls A10 M.length c10 (M.map Zm.z) tx _ (by rw [List.length_map]) HST.out (by rw [List.length_map]; have := HGK2.out; omega) HCC.out).mono ?_; rintro e w11 ⟨rfl, ⟨m11, rfl⟩⟩))
        go_ret2
        exact ⟨none, 0, rfl, Nat.le_refl _, Nat.zero_le _, ⟨fun i z hz => by simp at hz⟩, pw_below_drewN HB10.out m11⟩
       ·have c5 : ((M.length : Int) == 300) = false := beq_eq_false_iff_ne.mpr (by omega)
        rw [if_neg h300] at hsp
        have HL3 := Aside0.mk h300
        have HNX := Aside0.mk hsp
        clear hneg h300 HSP hsp
        go_wp2_with (first
         | (go_at_call 47; refine (spec_tiTilt.calls k m.z.w m.z.h Ag cg m.z.cs d ow oh oc _ HCG.out.2.2 HCG.out.2.1 HTL.out).mono ?_; rintro e w9 ⟨v9, rfl, ho9, hb9⟩; (have HS9 := Aside0.mk (HS.out.below hb9)); (have HB9 := Aside0.mk (below_then HB.out HB.out.size hb9)); (obtain ⟨A9, c9, e9⟩ := Kd.R_slice ho9); subst e9; (have HO9 := Aside0.mk (Kd.R_lower ho9 HB.out.size)); clear ho9 hb9 HS HB HCG y0 y1 y2)
         | (go_at_call 48; refine (spec_tyText.calls k ow oh A9 c9 oc tx _ (Kd.C_below (Kd.R_reads' HO9.out).2.2 (below_alloc (Below.refl _ _) _)) (Kd.R_reads' HO9.out).2.1 HTX.out).mono ?_; rintro e w10 ⟨rfl, hb10⟩; (obtain ⟨hb10, hk10⟩ := alloc_then hb10); (have HU10 := Aside0.mk hk10); (have HGB := Aside0.mk HB9.out.size); clear hk10; (have HS10 := Aside0.mk (HS9.out.below hb10)); (have HB10 := Aside0.mk (below_then HB9.out HB9.out.size hb10)); (have HO10 := Aside0.mk (Kd.R_below HO9.out hb10)); clear hb10 HS9 HB9 HO9; (generalize w9.heap.size = gt at HU10 HGB ⊢); (obtain ⟨A10, c10, e10, hc10, hst10, _⟩ := HS10.out.read); subst e10; (have HST := Aside0.mk hst10); (have HCC := Aside0.mk hc10); clear hst10 hc10)
         | (go_at_call 49; refine (spec_rePlace.calls A10 M.length c10 (M.map Zm.z) tx _ (by rw [List.length_map]) HST.out (by rw [List.length_map]; have := HGK2.out; omega) HCC.out).mono ?_; rintro e w11 ⟨rfl, ⟨m11, rfl⟩⟩))
        obtain ⟨Agx, cgx, egx, hcgx, hCgx⟩ := Kd.R_reads (HS10.out.at HM.out).grid
        have z0 := (blk_cell HU10.out 0).trans rfl
        have z1 := (blk_cell HU10.out 1).trans rfl
        have z2 := (blk_cell HU10.out 2).trans rfl
        have x4 : w10.cell? ⟨m.g, 4, none⟩ = some (.int .i64 m.z.far) := (blk_cell (HS10.out.at HM.out).blk 4).trans rfl
        clear hcgx hCgx egx
        go_region_law (apply Kd.R_append_step (d := ptK) (w0 := w) (base := w.heap.size) (s := .tmp 57) (x := .tmp 69) (t := 39) (e := 42) (z := .pointer none) (bytes := 8) (v := .slice A10 M.length c10) (xs := M.map Zm.g) (p := w10.heap.size) (cs := [.pointer (some ⟨w10.heap.size, 0, none⟩)]) (ok := fun _ => True) (okp := fun _ => False); (case hw => rfl); (case ho => rfl); (case ht => exact Tryz.underlying39); (case hinfo => kernel_rfl); (case hz => rfl); (case hs0 => decide); (case hb0 => decide); (case hs => rfl); (case hx => exact (congrArg (fun q => Value.slice (some ⟨q, 0, none⟩) 1 1) (World.size_alloc (w10.drewN _) _).symm)); (case hp => rfl); (case hokp => exact fun _ hk => hk.elim); (case hfresh => exact fun _ _ => trivial); (case HO => exact Kd.R_below HS10.out.row (below_alloc (pw_below_drewN (Below.refl _ w10) _) _)); (case HB => exact below_alloc (pw_below_drewN HB10.out _) _); (case hbase => exact (below_alloc (pw_below_drewN HB10.out _) _).size); (case hl => rw [List.length_map]; have := HGK2.out; omega); intro v12 w12 hr12 hb12 hg12 _)
        all_goals
         rw [i64_w] at hg12
         have HS12 := Aside0.mk (SB.more (z := zNew (ow, oh, oc) tx m.z.far i d) HS10.out HB10.out.size rfl HO10.out hg12 hr12)
         have HB12 := Aside0.mk hb12
         clear hr12 hb12 hg12 z0 z1 z2 x4 HU10 HO10 HS10 HB10 HST HCC
         have hmi : (M ++ [(⟨w10.heap.size, .slice A9 oc.length c9, .slice none 0 0, zNew (ow, oh, oc) tx m.z.far i d⟩ : Zm)])[i]? = some m := by rw [List.getElem?_append_left HGK2.out.2.1]; exact HM.out
         have hmj : (M ++ [(⟨w10.heap.size, .slice A9 oc.length c9, .slice none 0 0, zNew (ow, oh, oc) tx m.z.far i d⟩ : Zm)])[M.length]? = some ⟨w10.heap.size, .slice A9 oc.length c9, .slice none 0 0, zNew (ow, oh, oc) tx m.z.far i d⟩ := by simp
         have HMI := Aside0.mk hmi
         have HMJ := Aside0.mk hmj
         have HLT := Aside0.mk (show i < (M ++ [(⟨w10.heap.size, .slice A9 oc.length c9, .slice none 0 0, zNew (ow, oh, oc) tx m.z.far i d⟩ : Zm)]).length ∧ (M ++ [(⟨w10.heap.size, .slice A9 oc.length c9, .slice none 0 0, zNew (ow, oh, oc) tx m.z.far i d⟩ : Zm)]).length ≤ 300 by rw [List.length_append, List.length_singleton]; have := HGK2.out; have := HL3.out; omega)
         have HNY := Aside0.mk (show reS k (fun L => reA k (300 - i) (i + 1) L) i (3 - d) (d + 1) (zTouch ((M ++ [(⟨w10.heap.size, .slice A9 oc.length c9, .slice none 0 0, zNew (ow, oh, oc) tx m.z.far i d⟩ : Zm)]).map Zm.z) i M.length) = some (r1, r2) by rw [List.map_append]; exact HNX.out)
         clear hmi hmj HNX
         generalize (M ++ [(⟨w10.heap.size, .slice A9 oc.length c9, .slice none 0 0, zNew (ow, oh, oc) tx m.z.far i d⟩ : Zm)]) = Mt at HS12 HMI HMJ HLT HNY
         generalize (⟨w10.heap.size, .slice A9 oc.length c9, .slice none 0 0, zNew (ow, oh, oc) tx m.z.far i d⟩ : Zm) = mj at HMJ
         have HJ := Aside0.mk (show M.length ≤ 300 ∧ M.length < Mt.length from ⟨HGK2.out.2.2, (List.getElem?_eq_some_iff.1 HMJ.out).1⟩)
         generalize M.length = j at HMJ HNY HJ ⊢
         obtain ⟨A12, c12, e12, hc12, _, hp12⟩ := HS12.out.read
         have HSL := Aside0.mk (show v12 = .slice A12 Mt.length c12 from e12)
         subst e12
         obtain ⟨ad12, e12, x6⟩ := hp12 j mj HMJ.out
         cases e12
         have q1 : (0 ≤ (j : Int)) = True := eq_true (by omega)
         have q2 : ((j : Int) < (Mt.length : Int)) = True := eq_true (by have := HJ.out; omega)
         have x7 : w12.cell? ⟨mj.g, 4, none⟩ = some (.int .i64 mj.z.far) := (blk_cell (HS12.out.at HMJ.out).blk 4).trans rfl
         have x8 : w12.cell? ⟨m.g, 4, none⟩ = some (.int .i64 m.z.far) := (blk_cell (HS12.out.at HMI.out).blk 4).trans rfl
         have x9 : w12.cell? ⟨mj.g, 5, none⟩ = some (.int .i64 mj.z.words) := (blk_cell (HS12.out.at HMJ.out).blk 5).trans rfl
         have x10 : w12.cell? ⟨m.g, 5, none⟩ = some (.int .i64 m.z.words) := (blk_cell (HS12.out.at HMI.out).blk 5).trans rfl
         have x11 : w12.frozen? ⟨mj.g, 5, none⟩ = false := blk_frozen (HS12.out.at HMJ.out).blk 5
         clear hp12 hc12 HSL
         by_cases hfar : mj.z.far = wrap64 (m.z.far + 1)
         ·have c6 : (mj.z.far == wrap64 (m.z.far + 1)) = true := beq_iff_eq.mpr hfar
          have c7 : (mj.z.far == IntKind.i64.wrap (m.z.far + 1)) = true := by rw [i64_w]; exact c6
          have HFAR := Aside0.mk hfar
          clear hfar
          go_wp2_with fail
          go_quiet (fail)
          go_wp2_with fail
          go_region
          have HS13 := Aside0.mk ((HS12.out.drewn (nq + 1)).word HMJ.out (wrap64 (mj.z.words + m.z.words)))
          have HB13 := Aside0.mk (show Below w.heap.size w ((w12.drewN (nq + 1)).setCell ⟨mj.g, 5, none⟩ (.int .i64 (wrap64 (mj.z.words + m.z.words)))) from below_set (pw_below_drewN HB12.out (nq + 1)) (HS12.out.at HMJ.out).base)
          have HMG := Aside0.mk (show w.heap.size ≤ m.g from (HS12.out.at HMI.out).base)
          obtain ⟨mi, hmi2, hge, hxn⟩ := set_at (mj' := { mj with z := { mj.z with words := wrap64 (mj.z.words + m.z.words) } }) HMI.out HMJ.out rfl rfl
          have HXN := Aside0.mk hxn
          have HNZ := Aside0.mk (show ∀ v, reS k (fun L => reA k (300 - i) (i + 1) L) i (3 - d) (d + 1) (((Mt.set j { mj with z := { mj.z with words := wrap64 (mj.z.words + m.z.words) } }).set i { mi with vn := v, z := { mi.z with next := mi.z.next ++ [(j : Int)] } }).map Zm.z) = some (r1, r2) from fun v => by rw [← touch_yes HMJ.out HMI.out HFAR.out rfl hmi2 v]; exact HNY.out)
          have HLT2 := Aside0.mk (show i < (Mt.set j { mj with z := { mj.z with words := wrap64 (mj.z.words + m.z.words) } }).length ∧ (Mt.set j { mj with z := { mj.z with words := wrap64 (mj.z.words + m.z.words) } }).length ≤ 300 by rw [List.length_set]; exact HLT.out)
          have HMI2 := Aside0.mk hmi2
          have HGE := Aside0.mk hge
          clear hmi2 hge hxn HNY HS12 HB12 x6 x7 x8 x9 x10 x11 HFAR
          generalize (w12.drewN (nq + 1)).setCell ⟨mj.g, 5, none⟩ (.int .i64 (wrap64 (mj.z.words + m.z.words))) = w13 at HS13 HB13 ⊢
          generalize (Mt.set j { mj with z := { mj.z with words := wrap64 (mj.z.words + m.z.words) } }) = M2 at HS13 HMI2 HNZ HLT2
          have HK := Aside0.mk (HS13.out.at HMI2.out)
          obtain ⟨An, cn, en, hcn, _⟩ := Kd.R_reads HK.out.next
          have HR13 := Aside0.mk (show Kd.R (Kd.int .i64) 3 w13 w.heap.size (fun _ => True) (.slice An mi.z.next.length cn) mi.z.next by rw [← en]; exact HK.out.next)
          have HEN := Aside0.mk en
          have HBK := Aside0.mk (show w13.heap[m.g]? = some (.cells (zCells mi.z mi.vg (.slice An mi.z.next.length cn)) 47 (0, 0)) by rw [← en, ← HGE.out]; exact HK.out.blk)
          have HNL := Aside0.mk (show mi.z.next.length ≤ 1000 by rw [HXN.out]; exact HNL0.out)
          clear hcn en HK
          have x12 : w13.cell? ⟨m.g, 8, none⟩ = some (.slice An mi.z.next.length cn) := (blk_cell HBK.out 8).trans rfl
          go_wp2_with (first
           | ((with_reducible refine gate_dst (N := 105) rfl ?_); refine Kd.R_append (Kd.int .i64) (w0 := w) w.heap.size rfl (.tmp 102) (.tmp 104) 22 3 (.int .i64 0) 8 rfl Tryz.underlying22 info3 rfl (by decide) (by omega) (.slice An mi.z.next.length cn) mi.z.next (j : Int) [.int .i64 (j : Int)] (fun _ => True) (fun _ => False) ?h1 ?h2 ?aP (fun _ hk => hk.elim) ?aF ?aO ?aB ?aS ?aL ?_; (case h1 => rfl); (case h2 => rfl); (case aP => exact rfl); (case aB => exact HB13.out); (case aF => exact (fun _ _ => trivial)); (case aO => exact HR13.out); (case aS => exact HB13.out.size); (case aL => have := HNL.out; omega); intro v14 w14 ho14 hb14 hg14 hat14; (obtain ⟨A14, c14, e14⟩ := Kd.R_slice ho14); (generalize hlen14 : (mi.z.next ++ [(j : Int)]).length = n14 at e14); subst e14; (have HB14 := Aside0.mk hb14); (have HBK14 := Aside0.mk (blk_grown HBK.out hg14 (Kd.R_ne HR13.out HBK.out (by decide)))); (have HS15 := Aside0.mk (HS13.out.grow HMI2.out (v1 := .slice A14 n14 c14) (ys := mi.z.next ++ [(j : Int)]) (by rw [HEN.out]; exact hg14) (by rw [HEN.out]; exact hat14) ho14)); clear ho14 hb14 hg14 hat14 x12 hlen14; (have x13 : w14.cell? ⟨m.g, 8, none⟩ = some (.slice An mi.z.next.length cn) := (blk_cell HBK14.out 8).trans rfl); (have f13 := blk_frozen HBK14.out 8)))
          have HS16 := Aside0.mk (show SB (w14.setCell ⟨m.g, 8, none⟩ (.slice A14 n14 c14)) w.heap.size (.slice (some ad12) Mt.length c12) (M2.set i { mi with vn := .slice A14 n14 c14, z := { mi.z with next := mi.z.next ++ [(j : Int)] } }) by rw [← HGE.out]; exact HS15.out)
          have HB15 := Aside0.mk (show Below w.heap.size w (w14.setCell ⟨m.g, 8, none⟩ (.slice A14 n14 c14)) from below_set HB14.out (HMG.out))
          go_roundg (4 - (d + 1))
          case measure => have := HGK2.out; omega
          case rel => exact ⟨d + 1, _, M2.set i { mi with vn := .slice A14 n14 c14, z := { mi.z with next := mi.z.next ++ [(j : Int)] } }, rfl, by first | rfl | rw [wrap64_nat d (by have := HGK2.out; omega)] | simp, ⟨⟨⟨by have := HGK2.out; omega, Nat.le_refl _⟩, by rw [List.length_set]; exact HLT2.out, { mi with vn := .slice A14 n14 c14, z := { mi.z with next := mi.z.next ++ [(j : Int)] } }, by rw [List.getElem?_set, if_pos rfl, if_pos HLT2.out.1], HGE.out⟩, by rw [show 4 - (d + 1) = 3 - d by omega]; exact HNZ.out _⟩, HS16, HB15⟩
         ·have c6 : (mj.z.far == wrap64 (m.z.far + 1)) = false := beq_eq_false_iff_ne.mpr hfar
          have c7 : (mj.z.far == IntKind.i64.wrap (m.z.far + 1)) = false := by rw [i64_w]; exact c6
          have HNZ := Aside0.mk (show ∀ v, reS k (fun L => reA k (300 - i) (i + 1) L) i (3 - d) (d + 1) ((Mt.set i { m with vn := v, z := { m.z with next := m.z.next ++ [(j : Int)] } }).map Zm.z) = some (r1, r2) from fun v => by rw [← touch_no HMJ.out HMI.out hfar v]; exact HNY.out)
          have HMG := Aside0.mk (show w.heap.size ≤ m.g from (HS12.out.at HMI.out).base)
          clear hfar HNY
          go_wp2_with fail
          go_quiet (fail)
          have HB13 := Aside0.mk (pw_below_drewN HB12.out nq)
          obtain ⟨mi, hmi⟩ : ∃ mi, mi = m := ⟨m, rfl⟩
          have HGE := Aside0.mk (show mi.g = m.g by rw [hmi])
          have HXN := Aside0.mk (show mi.z.next = m.z.next by rw [hmi])
          obtain ⟨M2, hM2⟩ : ∃ M2, M2 = Mt := ⟨Mt, rfl⟩
          have HMI2 := Aside0.mk (show M2[i]? = some mi by rw [hM2, hmi]; exact HMI.out)
          have HS13 := Aside0.mk (show SB (w12.drewN nq) w.heap.size (.slice (some ad12) Mt.length c12) M2 by rw [hM2]; exact HS12.out.drewn nq)
          have HLT2 := Aside0.mk (show i < M2.length ∧ M2.length ≤ 300 by rw [hM2]; exact HLT.out)
          rw [← hmi, ← hM2] at HNZ
          clear HS12 HB12 x6 x7 x8 x9 x10 x11 hmi hM2
          generalize w12.drewN nq = w13 at HS13 HB13 ⊢
          have HK := Aside0.mk (HS13.out.at HMI2.out)
          obtain ⟨An, cn, en, hcn, _⟩ := Kd.R_reads HK.out.next
          have HR13 := Aside0.mk (show Kd.R (Kd.int .i64) 3 w13 w.heap.size (fun _ => True) (.slice An mi.z.next.length cn) mi.z.next by rw [← en]; exact HK.out.next)
          have HEN := Aside0.mk en
          have HBK := Aside0.mk (show w13.heap[m.g]? = some (.cells (zCells mi.z mi.vg (.slice An mi.z.next.length cn)) 47 (0, 0)) by rw [← en, ← HGE.out]; exact HK.out.blk)
          have HNL := Aside0.mk (show mi.z.next.length ≤ 1000 by rw [HXN.out]; exact HNL0.out)
          clear hcn en HK
          have x12 : w13.cell? ⟨m.g, 8, none⟩ = some (.slice An mi.z.next.length cn) := (blk_cell HBK.out 8).trans rfl
          go_wp2_with (first
           | ((with_reducible refine gate_dst (N := 105) rfl ?_); refine Kd.R_append (Kd.int .i64) (w0 := w) w.heap.size rfl (.tmp 102) (.tmp 104) 22 3 (.int .i64 0) 8 rfl Tryz.underlying22 info3 rfl (by decide) (by omega) (.slice An mi.z.next.length cn) mi.z.next (j : Int) [.int .i64 (j : Int)] (fun _ => True) (fun _ => False) ?h1 ?h2 ?aP (fun _ hk => hk.elim) ?aF ?aO ?aB ?aS ?aL ?_; (case h1 => rfl); (case h2 => rfl); (case aP => exact rfl); (case aB => exact HB13.out); (case aF => exact (fun _ _ => trivial)); (case aO => exact HR13.out); (case aS => exact HB13.out.size); (case aL => have := HNL.out; omega); intro v14 w14 ho14 hb14 hg14 hat14; (obtain ⟨A14, c14, e14⟩ := Kd.R_slice ho14); (generalize hlen14 : (mi.z.next ++ [(j : Int)]).length = n14 at e14); subst e14; (have HB14 := Aside0.mk hb14); (have HBK14 := Aside0.mk (blk_grown HBK.out hg14 (Kd.R_ne HR13.out HBK.out (by decide)))); (have HS15 := Aside0.mk (HS13.out.grow HMI2.out (v1 := .slice A14 n14 c14) (ys := mi.z.next ++ [(j : Int)]) (by rw [HEN.out]; exact hg14) (by rw [HEN.out]; exact hat14) ho14)); clear ho14 hb14 hg14 hat14 x12 hlen14; (have x13 : w14.cell? ⟨m.g, 8, none⟩ = some (.slice An mi.z.next.length cn) := (blk_cell HBK14.out 8).trans rfl); (have f13 := blk_frozen HBK14.out 8)))
          have HS16 := Aside0.mk (show SB (w14.setCell ⟨m.g, 8, none⟩ (.slice A14 n14 c14)) w.heap.size (.slice (some ad12) Mt.length c12) (M2.set i { mi with vn := .slice A14 n14 c14, z := { mi.z with next := mi.z.next ++ [(j : Int)] } }) by rw [← HGE.out]; exact HS15.out)
          have HB15 := Aside0.mk (show Below w.heap.size w (w14.setCell ⟨m.g, 8, none⟩ (.slice A14 n14 c14)) from below_set HB14.out (HMG.out))
          go_roundg (4 - (d + 1))
          case measure => have := HGK2.out; omega
          case rel => exact ⟨d + 1, _, M2.set i { mi with vn := .slice A14 n14 c14, z := { mi.z with next := mi.z.next ++ [(j : Int)] } }, rfl, by first | rfl | rw [wrap64_nat d (by have := HGK2.out; omega)] | simp, ⟨⟨⟨by have := HGK2.out; omega, Nat.le_refl _⟩, by rw [List.length_set]; exact HLT2.out, { mi with vn := .slice A14 n14 c14, z := { mi.z with next := mi.z.next ++ [(j : Int)] } }, by rw [List.getElem?_set, if_pos rfl, if_pos HLT2.out.1], HGE.out⟩, by rw [show 4 - (d + 1) = 3 - d by omega]; exact HNZ.out _⟩, HS16, HB15⟩
      ·have c4 : decide (zPlace (M.map Zm.z) tx 0 < 0) = false := decide_eq_false hneg
       obtain ⟨j, hj⟩ := Int.eq_ofNat_of_zero_le (Int.not_lt.1 hneg)
       have hsp := HSP.out
       rw [if_neg hneg, hj, Int.toNat_natCast] at hsp
       have hjl := zPlace_lt (M.map Zm.z) tx 0 (by omega)
       rw [List.length_map, hj] at hjl
       have HJ := Aside0.mk (show j ≤ 300 ∧ j < M.length by have := HGK2.out; omega)
       have HNY := Aside0.mk hsp
       have HZJ := Aside0.mk hj
       rw [hj] at c4
       clear hneg HSP hsp hj hjl
       go_wp2_with (first
        | (go_at_call 47; refine (spec_tiTilt.calls k m.z.w m.z.h Ag cg m.z.cs d ow oh oc _ HCG.out.2.2 HCG.out.2.1 HTL.out).mono ?_; rintro e w9 ⟨v9, rfl, ho9, hb9⟩; (have HS9 := Aside0.mk (HS.out.below hb9)); (have HB9 := Aside0.mk (below_then HB.out HB.out.size hb9)); (obtain ⟨A9, c9, e9⟩ := Kd.R_slice ho9); subst e9; (have HO9 := Aside0.mk (Kd.R_lower ho9 HB.out.size)); clear ho9 hb9 HS HB HCG y0 y1 y2)
        | (go_at_call 48; refine (spec_tyText.calls k ow oh A9 c9 oc tx _ (Kd.C_below (Kd.R_reads' HO9.out).2.2 (below_alloc (Below.refl _ _) _)) (Kd.R_reads' HO9.out).2.1 HTX.out).mono ?_; rintro e w10 ⟨rfl, hb10⟩; (obtain ⟨hb10, hk10⟩ := alloc_then hb10); (have HU10 := Aside0.mk hk10); (have HGB := Aside0.mk HB9.out.size); clear hk10; (have HS10 := Aside0.mk (HS9.out.below hb10)); (have HB10 := Aside0.mk (below_then HB9.out HB9.out.size hb10)); (have HO10 := Aside0.mk (Kd.R_below HO9.out hb10)); clear hb10 HS9 HB9 HO9; (generalize w9.heap.size = gt at HU10 HGB ⊢); (obtain ⟨A10, c10, e10, hc10, hst10, _⟩ := HS10.out.read); subst e10; (have HST := Aside0.mk hst10); (have HCC := Aside0.mk hc10); clear hst10 hc10)
        | (go_at_call 49; refine (spec_rePlace.calls A10 M.length c10 (M.map Zm.z) tx _ (by rw [List.length_map]) HST.out (by rw [List.length_map]; have := HGK2.out; omega) HCC.out).mono ?_; rintro e w11 ⟨rfl, ⟨m11, rfl⟩⟩; rw [HZJ.out]))
       obtain ⟨mj, hmj⟩ : ∃ mj, M[j]? = some mj := ⟨_, List.getElem?_eq_getElem HJ.out.2⟩
       have HMJ := Aside0.mk hmj
       have HMI := HM
       have HLT := Aside0.mk (show i < M.length ∧ M.length ≤ 300 from HGK2.out.2)
       have HS12 := Aside0.mk (HS10.out.drewn m11)
       have HB12 := Aside0.mk (pw_below_drewN HB10.out m11)
       clear hmj HS10 HB10 HST HCC HU10 HO10
       generalize w10.drewN m11 = w12 at HS12 HB12 ⊢
       generalize hv12 : Value.slice A10 M.length c10 = v12 at HS12 ⊢
       obtain ⟨Mt, hMt⟩ : ∃ Mt, Mt = M := ⟨M, rfl⟩
       rw [← hMt] at HMI HMJ HLT HNY HS12 HJ
       clear hMt
       obtain ⟨A12, c12, e12, hc12, _, hp12⟩ := HS12.out.read
       have HSL := Aside0.mk (show v12 = .slice A12 Mt.length c12 from e12)
       subst e12
       obtain ⟨ad12, e12, x6⟩ := hp12 j mj HMJ.out
       cases e12
       have q1 : (0 ≤ (j : Int)) = True := eq_true (by omega)
       have q2 : ((j : Int) < (Mt.length : Int)) = True := eq_true (by have := HJ.out; omega)
       have x7 : w12.cell? ⟨mj.g, 4, none⟩ = some (.int .i64 mj.z.far) := (blk_cell (HS12.out.at HMJ.out).blk 4).trans rfl
       have x8 : w12.cell? ⟨m.g, 4, none⟩ = some (.int .i64 m.z.far) := (blk_cell (HS12.out.at HMI.out).blk 4).trans rfl
       have x9 : w12.cell? ⟨mj.g, 5, none⟩ = some (.int .i64 mj.z.words) := (blk_cell (HS12.out.at HMJ.out).blk 5).trans rfl
       have x10 : w12.cell? ⟨m.g, 5, none⟩ = some (.int .i64 m.z.words) := (blk_cell (HS12.out.at HMI.out).blk 5).trans rfl
       have x11 : w12.frozen? ⟨mj.g, 5, none⟩ = false := blk_frozen (HS12.out.at HMJ.out).blk 5
       clear hp12 hc12 HSL
       by_cases hfar : mj.z.far = wrap64 (m.z.far + 1)
       ·have c6 : (mj.z.far == wrap64 (m.z.far + 1)) = true := beq_iff_eq.mpr hfar
        have c7 : (mj.z.far == IntKind.i64.wrap (m.z.far + 1)) = true := by rw [i64_w]; exact c6
        have HFAR := Aside0.mk hfar
        clear hfar
        go_wp2_with fail
        go_quiet (fail)
        go_wp2_with fail
        go_region
        have HS13 := Aside0.mk ((HS12.out.drewn (nq + 1)).word HMJ.out (wrap64 (mj.z.words + m.z.words)))
        have HB13 := Aside0.mk (show Below w.heap.size w ((w12.drewN (nq + 1)).setCell ⟨mj.g, 5, none⟩ (.int .i64 (wrap64 (mj.z.words + m.z.words)))) from below_set (pw_below_drewN HB12.out (nq + 1)) (HS12.out.at HMJ.out).base)
        have HMG := Aside0.mk (show w.heap.size ≤ m.g from (HS12.out.at HMI.out).base)
        obtain ⟨mi, hmi2, hge, hxn⟩ := set_at (mj' := { mj with z := { mj.z with words := wrap64 (mj.z.words + m.z.words) } }) HMI.out HMJ.out rfl rfl
        have HXN := Aside0.mk hxn
        have HNZ := Aside0.mk (show ∀ v, reS k (fun L => reA k (300 - i) (i + 1) L) i (3 - d) (d + 1) (((Mt.set j { mj with z := { mj.z with words := wrap64 (mj.z.words + m.z.words) } }).set i { mi with vn := v, z := { mi.z with next := mi.z.next ++ [(j : Int)] } }).map Zm.z) = some (r1, r2) from fun v => by rw [← touch_yes HMJ.out HMI.out HFAR.out rfl hmi2 v]; exact HNY.out)
        have HLT2 := Aside0.mk (show i < (Mt.set j { mj with z := { mj.z with words := wrap64 (mj.z.words + m.z.words) } }).length ∧ (Mt.set j { mj with z := { mj.z with words := wrap64 (mj.z.words + m.z.words) } }).length ≤ 300 by rw [List.length_set]; exact HLT.out)
        have HMI2 := Aside0.mk hmi2
        have HGE := Aside0.mk hge
        clear hmi2 hge hxn HNY HS12 HB12 x6 x7 x8 x9 x10 x11 HFAR
        generalize (w12.drewN (nq + 1)).setCell ⟨mj.g, 5, none⟩ (.int .i64 (wrap64 (mj.z.words + m.z.words))) = w13 at HS13 HB13 ⊢
        generalize (Mt.set j { mj with z := { mj.z with words := wrap64 (mj.z.words + m.z.words) } }) = M2 at HS13 HMI2 HNZ HLT2
        have HK := Aside0.mk (HS13.out.at HMI2.out)
        obtain ⟨An, cn, en, hcn, _⟩ := Kd.R_reads HK.out.next
        have HR13 := Aside0.mk (show Kd.R (Kd.int .i64) 3 w13 w.heap.size (fun _ => True) (.slice An mi.z.next.length cn) mi.z.next by rw [← en]; exact HK.out.next)
        have HEN := Aside0.mk en
        have HBK := Aside0.mk (show w13.heap[m.g]? = some (.cells (zCells mi.z mi.vg (.slice An mi.z.next.length cn)) 47 (0, 0)) by rw [← en, ← HGE.out]; exact HK.out.blk)
        have HNL := Aside0.mk (show mi.z.next.length ≤ 1000 by rw [HXN.out]; exact HNL0.out)
        clear hcn en HK
        have x12 : w13.cell? ⟨m.g, 8, none⟩ = some (.slice An mi.z.next.length cn) := (blk_cell HBK.out 8).trans rfl
        go_wp2_with (first
         | ((with_reducible refine gate_dst (N := 105) rfl ?_); refine Kd.R_append (Kd.int .i64) (w0 := w) w.heap.size rfl (.tmp 102) (.tmp 104) 22 3 (.int .i64 0) 8 rfl Tryz.underlying22 info3 rfl (by decide) (by omega) (.slice An mi.z.next.length cn) mi.z.next (j : Int) [.int .i64 (j : Int)] (fun _ => True) (fun _ => False) ?h1 ?h2 ?aP (fun _ hk => hk.elim) ?aF ?aO ?aB ?aS ?aL ?_; (case h1 => rfl); (case h2 => rfl); (case aP => exact rfl); (case aB => exact HB13.out); (case aF => exact (fun _ _ => trivial)); (case aO => exact HR13.out); (case aS => exact HB13.out.size); (case aL => have := HNL.out; omega); intro v14 w14 ho14 hb14 hg14 hat14; (obtain ⟨A14, c14, e14⟩ := Kd.R_slice ho14); (generalize hlen14 : (mi.z.next ++ [(j : Int)]).length = n14 at e14); subst e14; (have HB14 := Aside0.mk hb14); (have HBK14 := Aside0.mk (blk_grown HBK.out hg14 (Kd.R_ne HR13.out HBK.out (by decide)))); (have HS15 := Aside0.mk (HS13.out.grow HMI2.out (v1 := .slice A14 n14 c14) (ys := mi.z.next ++ [(j : Int)]) (by rw [HEN.out]; exact hg14) (by rw [HEN.out]; exact hat14) ho14)); clear ho14 hb14 hg14 hat14 x12 hlen14; (have x13 : w14.cell? ⟨m.g, 8, none⟩ = some (.slice An mi.z.next.length cn) := (blk_cell HBK14.out 8).trans rfl); (have f13 := blk_frozen HBK14.out 8)))
        have HS16 := Aside0.mk (show SB (w14.setCell ⟨m.g, 8, none⟩ (.slice A14 n14 c14)) w.heap.size (.slice (some ad12) Mt.length c12) (M2.set i { mi with vn := .slice A14 n14 c14, z := { mi.z with next := mi.z.next ++ [(j : Int)] } }) by rw [← HGE.out]; exact HS15.out)
        have HB15 := Aside0.mk (show Below w.heap.size w (w14.setCell ⟨m.g, 8, none⟩ (.slice A14 n14 c14)) from below_set HB14.out (HMG.out))
        go_roundg (4 - (d + 1))
        case measure => have := HGK2.out; omega
        case rel => exact ⟨d + 1, _, M2.set i { mi with vn := .slice A14 n14 c14, z := { mi.z with next := mi.z.next ++ [(j : Int)] } }, rfl, by first | rfl | rw [wrap64_nat d (by have := HGK2.out; omega)] | simp, ⟨⟨⟨by have := HGK2.out; omega, Nat.le_refl _⟩, by rw [List.length_set]; exact HLT2.out, { mi with vn := .slice A14 n14 c14, z := { mi.z with next := mi.z.next ++ [(j : Int)] } }, by rw [List.getElem?_set, if_pos rfl, if_pos HLT2.out.1], HGE.out⟩, by rw [show 4 - (d + 1) = 3 - d by omega]; exact HNZ.out _⟩, HS16, HB15⟩
       ·have c6 : (mj.z.far == wrap64 (m.z.far + 1)) = false := beq_eq_false_iff_ne.mpr hfar
        have c7 : (mj.z.far == IntKind.i64.wrap (m.z.far + 1)) = false := by rw [i64_w]; exact c6
        have HNZ := Aside0.mk (show ∀ v, reS k (fun L => reA k (300 - i) (i + 1) L) i (3 - d) (d + 1) ((Mt.set i { m with vn := v, z := { m.z with next := m.z.next ++ [(j : Int)] } }).map Zm.z) = some (r1, r2) from fun v => by rw [← touch_no HMJ.out HMI.out hfar v]; exact HNY.out)
        have HMG := Aside0.mk (show w.heap.size ≤ m.g from (HS12.out.at HMI.out).base)
        clear hfar HNY
        go_wp2_with fail
        go_quiet (fail)
        have HB13 := Aside0.mk (pw_below_drewN HB12.out nq)
        obtain ⟨mi, hmi⟩ : ∃ mi, mi = m := ⟨m, rfl⟩
        have HGE := Aside0.mk (show mi.g = m.g by rw [hmi])
        have HXN := Aside0.mk (show mi.z.next = m.z.next by rw [hmi])
        obtain ⟨M2, hM2⟩ : ∃ M2, M2 = Mt := ⟨Mt, rfl⟩
        have HMI2 := Aside0.mk (show M2[i]? = some mi by rw [hM2, hmi]; exact HMI.out)
        have HS13 := Aside0.mk (show SB (w12.drewN nq) w.heap.size (.slice (some ad12) Mt.length c12) M2 by rw [hM2]; exact HS12.out.drewn nq)
        have HLT2 := Aside0.mk (show i < M2.length ∧ M2.length ≤ 300 by rw [hM2]; exact HLT.out)
        rw [← hmi, ← hM2] at HNZ
        clear HS12 HB12 x6 x7 x8 x9 x10 x11 hmi hM2
        generalize w12.drewN nq = w13 at HS13 HB13 ⊢
        have HK := Aside0.mk (HS13.out.at HMI2.out)
        obtain ⟨An, cn, en, hcn, _⟩ := Kd.R_reads HK.out.next
        have HR13 := Aside0.mk (show Kd.R (Kd.int .i64) 3 w13 w.heap.size (fun _ => True) (.slice An mi.z.next.length cn) mi.z.next by rw [← en]; exact HK.out.next)
        have HEN := Aside0.mk en
        have HBK := Aside0.mk (show w13.heap[m.g]? = some (.cells (zCells mi.z mi.vg (.slice An mi.z.next.length cn)) 47 (0, 0)) by rw [← en, ← HGE.out]; exact HK.out.blk)
        have HNL := Aside0.mk (show mi.z.next.length ≤ 1000 by rw [HXN.out]; exact HNL0.out)
        clear hcn en HK
        have x12 : w13.cell? ⟨m.g, 8, none⟩ = some (.slice An mi.z.next.length cn) := (blk_cell HBK.out 8).trans rfl
        go_wp2_with (first
         | ((with_reducible refine gate_dst (N := 105) rfl ?_); refine Kd.R_append (Kd.int .i64) (w0 := w) w.heap.size rfl (.tmp 102) (.tmp 104) 22 3 (.int .i64 0) 8 rfl Tryz.underlying22 info3 rfl (by decide) (by omega) (.slice An mi.z.next.length cn) mi.z.next (j : Int) [.int .i64 (j : Int)] (fun _ => True) (fun _ => False) ?h1 ?h2 ?aP (fun _ hk => hk.elim) ?aF ?aO ?aB ?aS ?aL ?_; (case h1 => rfl); (case h2 => rfl); (case aP => exact rfl); (case aB => exact HB13.out); (case aF => exact (fun _ _ => trivial)); (case aO => exact HR13.out); (case aS => exact HB13.out.size); (case aL => have := HNL.out; omega); intro v14 w14 ho14 hb14 hg14 hat14; (obtain ⟨A14, c14, e14⟩ := Kd.R_slice ho14); (generalize hlen14 : (mi.z.next ++ [(j : Int)]).length = n14 at e14); subst e14; (have HB14 := Aside0.mk hb14); (have HBK14 := Aside0.mk (blk_grown HBK.out hg14 (Kd.R_ne HR13.out HBK.out (by decide)))); (have HS15 := Aside0.mk (HS13.out.grow HMI2.out (v1 := .slice A14 n14 c14) (ys := mi.z.next ++ [(j : Int)]) (by rw [HEN.out]; exact hg14) (by rw [HEN.out]; exact hat14) ho14)); clear ho14 hb14 hg14 hat14 x12 hlen14; (have x13 : w14.cell? ⟨m.g, 8, none⟩ = some (.slice An mi.z.next.length cn) := (blk_cell HBK14.out 8).trans rfl); (have f13 := blk_frozen HBK14.out 8)))
        have HS16 := Aside0.mk (show SB (w14.setCell ⟨m.g, 8, none⟩ (.slice A14 n14 c14)) w.heap.size (.slice (some ad12) Mt.length c12) (M2.set i { mi with vn := .slice A14 n14 c14, z := { mi.z with next := mi.z.next ++ [(j : Int)] } }) by rw [← HGE.out]; exact HS15.out)
        have HB15 := Aside0.mk (show Below w.heap.size w (w14.setCell ⟨m.g, 8, none⟩ (.slice A14 n14 c14)) from below_set HB14.out (HMG.out))
        go_roundg (4 - (d + 1))
        case measure => have := HGK2.out; omega
        case rel => exact ⟨d + 1, _, M2.set i { mi with vn := .slice A14 n14 c14, z := { mi.z with next := mi.z.next ++ [(j : Int)] } }, rfl, by first | rfl | rw [wrap64_nat d (by have := HGK2.out; omega)] | simp, ⟨⟨⟨by have := HGK2.out; omega, Nat.le_refl _⟩, by rw [List.length_set]; exact HLT2.out, { mi with vn := .slice A14 n14 c14, z := { mi.z with next := mi.z.next ++ [(j : Int)] } }, by rw [List.getElem?_set, if_pos rfl, if_pos HLT2.out.1], HGE.out⟩, by rw [show 4 - (d + 1) = 3 - d by omega]; exact HNZ.out _⟩, HS16, HB15⟩
     ·obtain rfl : d = 4 := by have := HA.out.1.1; omega
      have c3 : decide (((4 : Nat) : Int) < 4) = false := decide_eq_false (by omega)
      have hsp := HA.out.2
      rw [show 4 - 4 = 0 from rfl, reS] at hsp
      have HNX := Aside0.mk hsp
      have HGK3 := Aside0.mk (show i < M.length ∧ M.length ≤ 300 from HA.out.1.2.1)
      clear hsp HA hd
      go_wp2
      go_roundg (301 - (i + 1))
      case measure => have := HGK.out; omega
      case rel => exact ⟨i + 1, _, M, rfl, by first | rfl | rw [wrap64_nat i (by have := HGK3.out; omega)] | simp, ⟨⟨by have := HGK3.out; omega, HGK3.out.2, Nat.le_refl _⟩, by rw [show 301 - (i + 1) = 300 - i by omega]; exact HNX.out⟩, HS, HB⟩
   ·obtain rfl : i = M.length := by have := HA.out.1.1; omega
    have c2 : decide ((M.length : Int) < (M.length : Int)) = false := decide_eq_false (by omega)
    have hsp := HA.out.2
    rw [show 301 - M.length = (300 - M.length) + 1 by have := HA.out.1; omega, reA, if_neg (by rw [List.length_map]; exact hli)] at hsp
    simp only [Option.some.injEq, Prod.mk.injEq] at hsp
    obtain ⟨rfl, rfl⟩ := hsp
    have HST := Aside0.mk hstL
    have HCL := Aside0.mk hcL
    have HML := Aside0.mk (show M.length ≤ 300 from HA.out.1.2.1)
    subst eL
    clear HA hli hstL hptL hcL
    go_wp2
    go_ret2
    exact ⟨AL, cL, by rw [List.length_map]; rfl, by rw [List.length_map]; exact HCL.out, by rw [List.length_map]; exact HML.out, HST.out, HB.out⟩
end Go.Proofs.YtchkmhbngbgjnaaGreatDoor.Q
end
section
namespace Go.Proofs.YtchkmhbngbgjnaaGreatDoor.Q
set_option linter.unusedSectionVars false
set_option linter.unusedSimpArgs false
open Go.RowKit Go.Proofs.YtchkmhbngbgjnaaGreatDoorW.PrintWords Go.Proofs.YtchkmhbngbgjnaaGreatDoorW.PrintLast Go.Proofs.YtchkmhbngbgjnaaGreatDoorW.PrintMore
theorem StC.get {w : World} {A : Option Addr} {L : List Zs} (h : StC w A L) {i : Nat} (hi : i < L.length) : ∃ (ad : Addr) (g : Nat) (Ag An : Option Addr) (cg cn : Nat), A = some ad ∧ w.cell? (ad.add i) = some (.pointer (some ⟨g, 0, none⟩)) ∧ w.heap[g]? = some (.cells (zCells (zAt L i) (.slice Ag (zAt L i).cs.length cg) (.slice An (zAt L i).next.length cn)) 47 (0, 0)) ∧
  ((zAt L i).cs.length ≤ cg ∧ Kd.C (Kd.int .u8) w Ag (zAt L i).cs.length (zAt L i).cs) ∧ (zAt L i).next.length ≤ cn ∧ Kd.C (Kd.int .i64) w An (zAt L i).next.length (zAt L i).next := h.at' i (zAt L i) (drop_zAt hi).2
end Go.Proofs.YtchkmhbngbgjnaaGreatDoor.Q
end
section
namespace Go.Proofs.YtchkmhbngbgjnaaGreatDoor.Q
open Go.RowKit Go.Proofs.YtchkmhbngbgjnaaGreatDoorW.PrintWords Go.Proofs.YtchkmhbngbgjnaaGreatDoorW.PrintLast Go.Proofs.YtchkmhbngbgjnaaGreatDoorW.PrintMore
attribute [local go_sem] max2_int min2_int max_two min_two max_three min_three max_four min_four
set_option linter.unusedVariables false
set_option linter.unusedSimpArgs false
def spec_l1Most.f (a0 : Int) (a1 : Int) : Option (Int) := if a0 > a1 then (some a0) else (some a1)
set_option maxHeartbeats 8000000 in
set_option maxRecDepth 100000 in
theorem spec_l1Most.calls (a0 : Int) (a1 : Int) (r : Int) (w : World) (h : spec_l1Most.f a0 a1 = some r) :
  Calls Tryz.prog 36 #[.int .i64 a0, .int .i64 a1] w fun e w' => e = .returned (.int .i64 r) ∧ Drawn0 w w' := by
 have H : (if a0 > a1 then (some a0) else (some a1)) = some r := h
 clear h
 by_cases c3 : a0 > a1
 ·rw [if_pos c3] at H
  have c3b0 : decide (a1 < a0) = true := decide_eq_true c3
  clear c3
  obtain rfl := Option.some.inj H
  go_enter Tryz.func36, Tryz.ntmps36
  go_wp2
  go_ret
  exact ⟨by first | rfl | (simp; done) | (simp [*]; done), by repeat (first | exact Drawn0.refl _ | apply Drawn0.step)⟩
 ·rw [if_neg c3] at H
  have c3b0 : decide (a1 < a0) = false := decide_eq_false c3
  clear c3
  obtain rfl := Option.some.inj H
  go_enter Tryz.func36, Tryz.ntmps36
  go_wp2
  go_ret
  exact ⟨by first | rfl | (simp; done) | (simp [*]; done), by repeat (first | exact Drawn0.refl _ | apply Drawn0.step)⟩
end Go.Proofs.YtchkmhbngbgjnaaGreatDoor.Q
end
section
namespace Go.Proofs.YtchkmhbngbgjnaaGreatDoor.Q
set_option linter.unusedSectionVars false
set_option linter.unusedSimpArgs false
open Go.RowKit Go.Proofs.YtchkmhbngbgjnaaGreatDoorW.PrintWords Go.Proofs.YtchkmhbngbgjnaaGreatDoorW.PrintLast Go.Proofs.YtchkmhbngbgjnaaGreatDoorW.PrintMore
def farZ : List Zs → Int → ByteArray → Int × ByteArray
 | [], m, f => (m, f)
 | z :: L, m, f => if m < z.far then farZ L z.far z.text else if z.far = m then (if Op.bytesLess z.text.toList f.toList = true then farZ L z.far z.text else farZ L m f) else farZ L m f
def spec_FarthestOf.f (k : Nat) (t : ByteArray) : Option (Int × ByteArray × Bool) := (spec_reAll.f k t).bind fun a => (spec_l1Most.f (farZ a.1 (-1) ⟨#[]⟩).1 0).bind fun m => some (m, (farZ a.1 (-1) ⟨#[]⟩).2, a.2)
set_option maxHeartbeats 8000000 in
set_option maxRecDepth 100000 in
theorem spec_FarthestOf.calls (k : Nat) (a0 : ByteArray) (r1 : Int) (r2 : ByteArray) (r3 : Bool) (w : World) (h : spec_FarthestOf.f k a0 = some (r1, r2, r3)) :
  Calls Tryz.prog 18 #[.string a0] w fun e w' => e = .returned (.tuple #[.int .i64 r1, .string r2, .bool r3]) ∧ Below w.heap.size w w' := by
 unfold spec_FarthestOf.f at h
 obtain ⟨⟨L, ok⟩, ha, h⟩ := Option.bind_eq_some_iff.1 h
 obtain ⟨mm, hl, h⟩ := Option.bind_eq_some_iff.1 h
 simp only [Option.some.injEq, Prod.mk.injEq] at h
 obtain ⟨rfl, rfl, rfl⟩ := h
 have HA := Aside0.mk ha
 have HL := Aside0.mk hl
 clear ha hl
 go_enter Tryz.func18, Tryz.ntmps18
 go_wp2_with (first
  | (go_at_call 30; refine (spec_reAll.calls k a0 L ok _ HA.out).mono ?_; rintro e w1 ⟨A1, c1, rfl, hc1, hl1, hs1, hb1⟩; (have HB1 := Aside0.mk hb1); (have HC1 := Aside0.mk (show L.length ≤ c1 ∧ L.length ≤ 300 from ⟨hc1, hl1⟩)); (have HS1 := Aside0.mk hs1); clear hc1 hl1 hs1 hb1))
 go_loopg [7, 8, 18] L.length (fun gg v7 v8 v18 wr => ∃ (i : Nat) (m : Int) (f : ByteArray), v7 = .int .i64 m ∧ v8 = .string f ∧ v18 = .int .i64 i ∧ Aside0 ((i ≤ L.length ∧ L.length - i ≤ gg) ∧ farZ (L.drop i) m f = farZ L (-1) ⟨#[]⟩) ∧ Drawn0 w1 wr)
 case atStart => exact ⟨0, -1, ⟨#[]⟩, rfl, rfl, by first | rfl | (simp; done), ⟨⟨Nat.zero_le _, Nat.le_refl _⟩, rfl⟩, Drawn0.refl _⟩
 case round =>
  obtain ⟨i, m, f, rfl, rfl, rfl, HA2, ⟨m1, rfl⟩⟩ := hrel
  by_cases hli : i < L.length
  ·have c2 : decide ((i : Int) < (L.length : Int)) = true := decide_eq_true (by omega)
   have p1 : (0 ≤ (i : Int)) = True := eq_true (by omega)
   have p2 : ((i : Int) < (L.length : Int)) = True := eq_true (by omega)
   have hsp := HA2.out.2
   rw [(drop_zAt hli).1, farZ] at hsp
   obtain ⟨ad, g, Ag, An, cg, cn, e1, x1, x2, _, _⟩ := HS1.out.get hli
   cases e1
   have x3 : w1.cell? ⟨g, 4, none⟩ = some (.int .i64 (zAt L i).far) := (blk_cell x2 4).trans rfl
   have x4 : w1.cell? ⟨g, 3, none⟩ = some (.string (zAt L i).text) := (blk_cell x2 3).trans rfl
   have HGK := Aside0.mk (show L.length - i ≤ gk ∧ i < L.length from ⟨HA2.out.1.2, hli⟩)
   clear HA2 hli x2
   generalize zAt L i = z at hsp x3 x4
   by_cases h1 : m < z.far
   ·have c3 : decide (m < z.far) = true := decide_eq_true h1
    rw [if_pos h1] at hsp
    have HN := Aside0.mk hsp
    clear h1 hsp
    go_wp2
    go_roundg (L.length - (i + 1))
    case measure => have := HGK.out; omega
    case rel => exact ⟨i + 1, z.far, z.text, rfl, rfl, by first | rfl | rw [wrap64_nat i (by have := HGK.out; have := HC1.out; omega)] | simp, ⟨⟨by have := HGK.out; omega, Nat.le_refl _⟩, HN.out⟩, by repeat (first | exact Drawn0.refl _ | apply Drawn0.step)⟩
   ·have c3 : decide (m < z.far) = false := decide_eq_false h1
    rw [if_neg h1] at hsp
    by_cases h2 : z.far = m
    ·have c4 : (z.far == m) = true := beq_iff_eq.mpr h2
     rw [if_pos h2] at hsp
     cases h3 : Op.bytesLess z.text.toList f.toList with
     | true =>
      rw [h3, if_pos rfl] at hsp
      have HN := Aside0.mk hsp
      have HZ := Aside0.mk h2
      clear h1 h2 hsp
      go_wp2
      go_roundg (L.length - (i + 1))
      case measure => have := HGK.out; omega
      case rel => exact ⟨i + 1, z.far, z.text, rfl, rfl, by first | rfl | rw [wrap64_nat i (by have := HGK.out; have := HC1.out; omega)] | simp, ⟨⟨by have := HGK.out; omega, Nat.le_refl _⟩, HN.out⟩, by repeat (first | exact Drawn0.refl _ | apply Drawn0.step)⟩
     | false =>
      rw [h3, if_neg Bool.false_ne_true] at hsp
      have HN := Aside0.mk hsp
      clear h1 h2 hsp
      go_wp2
      go_roundg (L.length - (i + 1))
      case measure => have := HGK.out; omega
      case rel => exact ⟨i + 1, m, f, rfl, rfl, by first | rfl | rw [wrap64_nat i (by have := HGK.out; have := HC1.out; omega)] | simp, ⟨⟨by have := HGK.out; omega, Nat.le_refl _⟩, HN.out⟩, by repeat (first | exact Drawn0.refl _ | apply Drawn0.step)⟩
    ·have c4 : (z.far == m) = false := beq_eq_false_iff_ne.mpr h2
     rw [if_neg h2] at hsp
     have HN := Aside0.mk hsp
     clear h1 h2 hsp
     go_wp2
     go_roundg (L.length - (i + 1))
     case measure => have := HGK.out; omega
     case rel => exact ⟨i + 1, m, f, rfl, rfl, by first | rfl | rw [wrap64_nat i (by have := HGK.out; have := HC1.out; omega)] | simp, ⟨⟨by have := HGK.out; omega, Nat.le_refl _⟩, HN.out⟩, by repeat (first | exact Drawn0.refl _ | apply Drawn0.step)⟩
  ·obtain rfl : i = L.length := by have := HA2.out.1.1; omega
   have c2 : decide ((L.length : Int) < (L.length : Int)) = false := decide_eq_false (by omega)
   have hsp := HA2.out.2
   rw [List.drop_length, farZ] at hsp
   have HE := Aside0.mk hsp
   have HL2 := Aside0.mk (show spec_l1Most.f m 0 = some mm by have := HL.out; rw [← hsp] at this; exact this)
   clear hsp HA2 hli
   go_wp2_with (first
    | (go_at_call 36; refine (spec_l1Most.calls m 0 mm _ HL2.out).mono ?_; rintro e w5 ⟨rfl, ⟨m5, rfl⟩⟩))
   go_ret3
   exact ⟨by rw [← HE.out]; rfl, pw_below_drewN HB1.out _⟩
end Go.Proofs.YtchkmhbngbgjnaaGreatDoor.Q
end
section
namespace Go.Proofs.YtchkmhbngbgjnaaGreatDoor.Q
open Go.RowKit Go.Proofs.YtchkmhbngbgjnaaGreatDoorW.PrintWords Go.Proofs.YtchkmhbngbgjnaaGreatDoorW.PrintLast Go.Proofs.YtchkmhbngbgjnaaGreatDoorW.PrintMore
attribute [local go_sem] max2_int min2_int max_two min_two max_three min_three max_four min_four
set_option linter.unusedVariables false
set_option linter.unusedSimpArgs false
def impl_FarthestOf.l0 : Nat → Int → ByteArray → List ByteArray → Int → Int → List ByteArray → List Int → List (List Int) → List ByteArray → Option (Int × ByteArray × Bool)
 | 0, _, _, _, _, _, _, _, _, _ => none
 | k + 1, x7, x8, x22, x23, x24, x115000, x115001, x115002, x115003 => if x24 < x23 then (if 0 ≤ x24 then (if x24 < (x22.length : Int) then (if x24 < (x115001.length : Int) then (if (rd x115001 x24) = x7 then (if x8.toList = ([] : List UInt8) then (impl_FarthestOf.l0 k x7 (rdOf ByteArray.empty x22 x24) x22 x23 (wrap64 (x24 + 1)) x115000 x115001 x115002 x115003) else (if (Op.bytesLess ((rdOf ByteArray.empty x22 x24).toList) x8.toList) = true then (impl_FarthestOf.l0 k x7 (rdOf ByteArray.empty x22 x24) x22 x23 (wrap64 (x24 + 1)) x115000 x115001 x115002 x115003) else (impl_FarthestOf.l0 k x7 x8 x22 x23 (wrap64 (x24 + 1)) x115000 x115001 x115002 x115003))) else (impl_FarthestOf.l0 k x7 x8 x22 x23 (wrap64 (x24 + 1)) x115000 x115001 x115002 x115003)) else (none)) else (none)) else (none)) else (some (x7, x8, true))
def impl_FarthestOf.f (k : Nat) (a0 : ByteArray) : Option (Int × ByteArray × Bool) := (impl_reachOf.f k a0).bind fun bt101 => (if bt101.2.2.2.2 = true then ((slices_Max_int.f bt101.2.1).bind fun t115 => (impl_FarthestOf.l0 k t115 (⟨#[]⟩ : ByteArray) bt101.1 (bt101.1.length : Int) 0 bt101.1 bt101.2.1 bt101.2.2.1 bt101.2.2.2.1)) else (some (0, (⟨#[]⟩ : ByteArray), false)))
set_option maxHeartbeats 8000000 in
set_option maxRecDepth 100000 in
theorem impl_FarthestOf.calls (k : Nat) (a0 : ByteArray) (r1 : Int) (r2 : ByteArray) (r3 : Bool) (w : World) (hG : GoodW w) (h : impl_FarthestOf.f k a0 = some (r1, r2, r3)) :
  Calls Tryz.prog 19 #[.string a0] w fun e w' => e = .returned (.tuple #[.int .i64 r1, .string r2, .bool r3]) ∧ Below w.heap.size w w' := by
 have hu51 := Tryz.underlying51
 have HG := Aside0.mk hG
 clear hG
 have HB := Aside0.mk (Below.refl w.heap.size w)
 have H : ((impl_reachOf.f k a0).bind fun bt101 => (if bt101.2.2.2.2 = true then ((slices_Max_int.f bt101.2.1).bind fun t115 => (impl_FarthestOf.l0 k t115 (⟨#[]⟩ : ByteArray) bt101.1 (bt101.1.length : Int) 0 bt101.1 bt101.2.1 bt101.2.2.1 bt101.2.2.2.1)) else (some (0, (⟨#[]⟩ : ByteArray), false)))) = some (r1, r2, r3) := h
 clear h
 replace H := Option.bind_eq_some_iff.mp H
 obtain ⟨⟨t101, t104, t107, t110, t113⟩, A20, H⟩ := H
 replace H : (if t113 = true then ((slices_Max_int.f t104).bind fun t115 => (impl_FarthestOf.l0 k t115 (⟨#[]⟩ : ByteArray) t101 (t101.length : Int) 0 t101 t104 t107 t110)) else (some (0, (⟨#[]⟩ : ByteArray), false))) = some (r1, r2, r3) := H
 have A2 := Aside0.mk A20
 clear A20
 by_cases c3 : t113 = true
 ·subst c3
  have H1 : ((slices_Max_int.f t104).bind fun t115 => (impl_FarthestOf.l0 k t115 (⟨#[]⟩ : ByteArray) t101 (t101.length : Int) 0 t101 t104 t107 t110)) = some (r1, r2, r3) := by rw [if_pos rfl] at H; exact H
  clear H
  have H := H1
  clear H1
  replace H := Option.bind_eq_some_iff.mp H
  obtain ⟨t115, A40, H⟩ := H
  replace H : (impl_FarthestOf.l0 k t115 (⟨#[]⟩ : ByteArray) t101 (t101.length : Int) 0 t101 t104 t107 t110) = some (r1, r2, r3) := H
  have A4 := Aside0.mk A40
  clear A40
  have H' := Aside0.mk H
  clear H
  go_enter Tryz.func19, Tryz.ntmps19
  go_wp2_with (first | ((with_reducible refine gate_callee (f := 31) rfl ?_); refine gcall (some 13) Tryz.func31 #[.string a0] rfl ?_; (with_reducible refine (impl_reachOf.calls k a0 t101 t104 t107 t110 true _ ?side1 A2.out).mono ?_); (case side1 => (refine GoodW.below HG.out ?_); exact bel HB); rintro e w5 ⟨v102, v105, v108, v111, rfl, ho0, ho1, ho2, ho3, hb⟩; refine ⟨_, rfl, ?_⟩; have n0_ := Aside0.mk (Kd.R_lower ho0 (below_size (bel HB))); have n1_ := Aside0.mk (Kd.R_lower ho1 (below_size (bel HB))); have n2_ := Aside0.mk (Kd.S_lower ho2 (below_size (bel HB))); have n3_ := Aside0.mk (Kd.R_lower ho3 (below_size (bel HB))); have n4_ := Aside0.mk (below_step (bel HB) hb); clear HB; have HO103 := n0_; have HO106 := n1_; have HO109 := n2_; have HO112 := n3_; have HB := n4_; clear n0_ n1_ n2_ n3_ n4_; (try clear hb); (try clear hb2); (try clear hk); (try clear hi); (try clear ho0); (try clear ho1); (try clear ho2); (try clear ho3)) | ((with_reducible refine gate_dst (N := 5) rfl ?_); refine boxE (N := 5) (cs := #[.slice none 0 0, .slice none 0 0, .slice none 0 0, .slice none 0 0]) (t := 51) ?_; intro gb114 hg w6 hbox hb; have n0_ := Aside0.mk (Kd.R_below (rch HO103) hb); have n1_ := Aside0.mk (Kd.R_below (rch HO106) hb); have n2_ := Aside0.mk (Kd.S_below (by (with_reducible repeat (first | apply Kd.S_alloc | apply Kd.S_drewN | apply Kd.S_drew)); (first | exact HO109.out | exact R_any HO109.out)) hb); have n3_ := Aside0.mk (Kd.R_below (rch HO112) hb); have n4_ := Aside0.mk (below_step (bel HB) hb); have n5_ := Aside0.mk (hbox); have n6_ := Aside0.mk (gsz hg (bel HB)); have n7_ := Aside0.mk (gsz hg (bel HB)); clear HO103; clear HO106; clear HO109; clear HO112; clear HB; have HO103 := n0_; have HO106 := n1_; have HO109 := n2_; have HO112 := n3_; have HB := n4_; have BK114 := n5_; have GW114 := n6_; have GE114 := n7_; clear n0_ n1_ n2_ n3_ n4_ n5_ n6_ n7_; clear hb hbox hg; obtain ⟨Ao7, co7, eo7⟩ := Kd.R_slice HO103.out; subst eo7; have hcz8_0 : w6.cell? ⟨gb114, 0, none⟩ = some (.slice none 0 0) := (blk_cell BK114.out 0).trans rfl; have hcz8_1 : w6.cell? ⟨gb114, 1, none⟩ = some (.slice none 0 0) := (blk_cell BK114.out 1).trans rfl; have hcz8_2 : w6.cell? ⟨gb114, 2, none⟩ = some (.slice none 0 0) := (blk_cell BK114.out 2).trans rfl; have hcz8_3 : w6.cell? ⟨gb114, 3, none⟩ = some (.slice none 0 0) := (blk_cell BK114.out 3).trans rfl; have hfz8_0 := blk_frozen BK114.out 0; have hfz8_1 := blk_frozen BK114.out 1; have hfz8_2 := blk_frozen BK114.out 2; have hfz8_3 := blk_frozen BK114.out 3; obtain ⟨Ao9, co9, eo9⟩ := Kd.R_slice HO106.out; subst eo9; obtain ⟨Ao10, co10, eo10⟩ := Kd.S_slice HO109.out; subst eo10; obtain ⟨Ao11, co11, eo11⟩ := Kd.R_slice HO112.out; subst eo11) | ((with_reducible refine gate_callee (f := 32) rfl ?_); refine gcall (some 20) Tryz.func32 #[.slice Ao9 t104.length co9] rfl ?_; (with_reducible refine (slices_Max_int.calls _ _ t104 t115 _ ?side1 ?side2 A4.out).mono ?_); (case side1 => refine (Kd.R_reads' (e := 3) (base := w.heap.size) (ok := fun k_ => True) (n := t104.length) (c := co9) ?_).2.2; exact (by (with_reducible repeat (first | apply Kd.R_alloc | apply Kd.R_drewN | apply Kd.R_drew)); exact (Kd.R_mono (Kd.R_far (p := ⟨gb114, 3, none⟩) (Kd.R_far (p := ⟨gb114, 2, none⟩) (Kd.R_far (p := ⟨gb114, 1, none⟩) (Kd.R_far (p := ⟨gb114, 0, none⟩) (Kd.R_types HO106.out BK114.out (by decide)) (fun _ hk => hk.2) (.slice Ao7 t101.length co7)) (fun _ hk => hk.2) (.slice Ao9 t104.length co9)) (fun _ hk => hk.2) (.slice Ao10 t107.length co10)) (fun _ hk => hk.2) (.slice Ao11 t110.length co11)) (fun _ h_ => h_.1)))); (case side2 => exact (Kd.R_reads' HO106.out).2.1); rintro e w' ⟨rfl, ⟨nd, rfl⟩⟩; refine ⟨_, rfl, ?_⟩))
  go_loopg [8, 24] k (fun kq v8 v24 w' => ∃ (x8_1 : ByteArray) (x24_1 : Int), v8 = .string x8_1 ∧ v24 = .int .i64 x24_1 ∧ Aside0 (impl_FarthestOf.l0 kq t115 x8_1 t101 (t101.length : Int) x24_1 t101 t104 t107 t110 = some (r1, r2, r3)) ∧ Aside0 (kq ≤ k) ∧ Aside0 (Kd.R Kd.string 9 w' w.heap.size (fun k_ => some k_ ≠ ((.slice Ao11 t110.length co11) : Value).ownBlock) (.slice Ao7 t101.length co7) t101) ∧ Aside0 (Kd.R Kd.string 9 w' w.heap.size (fun k_ => some k_ ≠ ((.slice Ao11 t110.length co11) : Value).ownBlock) (.slice Ao7 t101.length co7) t101) ∧ Aside0 (Kd.R (Kd.int .i64) 3 w' w.heap.size (fun _ => True) (.slice Ao9 t104.length co9) t104) ∧ Aside0 (Kd.S (Kd.slice 3 (Kd.int .i64)) 22 w' w.heap.size (fun k_ => some k_ ≠ ((.slice Ao9 t104.length co9) : Value).ownBlock) (.slice Ao10 t107.length co10) t107) ∧ Aside0 (Kd.R Kd.string 9 w' w.heap.size (fun k_ => some k_ ≠ ((.slice Ao7 t101.length co7) : Value).ownBlock ∧ some k_ ≠ ((.slice Ao7 t101.length co7) : Value).ownBlock) (.slice Ao11 t110.length co11) t110) ∧ Aside0 (w'.heap[gb114]? = some (.cells #[(.slice Ao7 t101.length co7), (.slice Ao9 t104.length co9), (.slice Ao10 t107.length co10), (.slice Ao11 t110.length co11)] 51 (0, 0))) ∧ Aside0 (Below w.heap.size w w'))
  case atStart => exact ⟨((⟨#[]⟩ : ByteArray)), (0), (by first | rfl | (simp; done) | (simp [*]; done) | (simp [nil_bool]; done)), (by first | rfl | (simp; done) | (simp [*]; done) | (simp [nil_bool]; done)), H', ⟨Nat.le_refl _⟩, ⟨by (with_reducible repeat (first | apply Kd.R_alloc | apply Kd.R_drewN | apply Kd.R_drew)); exact Kd.R_mono (Kd.R_far (p := ⟨gb114, 3, none⟩) (Kd.R_far (p := ⟨gb114, 2, none⟩) (Kd.R_far (p := ⟨gb114, 1, none⟩) (Kd.R_far (p := ⟨gb114, 0, none⟩) (Kd.R_types HO103.out BK114.out (by decide)) (fun _ hk => hk.2) (.slice Ao7 t101.length co7)) (fun _ hk => hk.2) (.slice Ao9 t104.length co9)) (fun _ hk => hk.2) (.slice Ao10 t107.length co10)) (fun _ hk => hk.2) (.slice Ao11 t110.length co11)) (fun _ hk => hk.1)⟩, ⟨by (with_reducible repeat (first | apply Kd.R_alloc | apply Kd.R_drewN | apply Kd.R_drew)); exact Kd.R_mono (Kd.R_far (p := ⟨gb114, 3, none⟩) (Kd.R_far (p := ⟨gb114, 2, none⟩) (Kd.R_far (p := ⟨gb114, 1, none⟩) (Kd.R_far (p := ⟨gb114, 0, none⟩) (Kd.R_types HO103.out BK114.out (by decide)) (fun _ hk => hk.2) (.slice Ao7 t101.length co7)) (fun _ hk => hk.2) (.slice Ao9 t104.length co9)) (fun _ hk => hk.2) (.slice Ao10 t107.length co10)) (fun _ hk => hk.2) (.slice Ao11 t110.length co11)) (fun _ hk => hk.1)⟩, ⟨by (with_reducible repeat (first | apply Kd.R_alloc | apply Kd.R_drewN | apply Kd.R_drew)); exact Kd.R_mono (Kd.R_far (p := ⟨gb114, 3, none⟩) (Kd.R_far (p := ⟨gb114, 2, none⟩) (Kd.R_far (p := ⟨gb114, 1, none⟩) (Kd.R_far (p := ⟨gb114, 0, none⟩) (Kd.R_types HO106.out BK114.out (by decide)) (fun _ hk => hk.2) (.slice Ao7 t101.length co7)) (fun _ hk => hk.2) (.slice Ao9 t104.length co9)) (fun _ hk => hk.2) (.slice Ao10 t107.length co10)) (fun _ hk => hk.2) (.slice Ao11 t110.length co11)) (fun _ hk => trivial)⟩, ⟨by (with_reducible repeat (first | apply Kd.S_alloc | apply Kd.S_drewN | apply Kd.S_drew)); exact Kd.S_mono (Kd.S_far (p := ⟨gb114, 3, none⟩) (Kd.S_far (p := ⟨gb114, 2, none⟩) (Kd.S_far (p := ⟨gb114, 1, none⟩) (Kd.S_far (p := ⟨gb114, 0, none⟩) (Kd.S_types HO109.out BK114.out (by decide)) (fun _ hk => hk.2) (.slice Ao7 t101.length co7)) (fun _ hk => hk.2) (.slice Ao9 t104.length co9)) (fun _ hk => hk.2) (.slice Ao10 t107.length co10)) (fun _ hk => hk.2) (.slice Ao11 t110.length co11)) (fun _ hk => hk.1)⟩, ⟨by (with_reducible repeat (first | apply Kd.R_alloc | apply Kd.R_drewN | apply Kd.R_drew)); exact Kd.R_mono (Kd.R_far (p := ⟨gb114, 3, none⟩) (Kd.R_far (p := ⟨gb114, 2, none⟩) (Kd.R_far (p := ⟨gb114, 1, none⟩) (Kd.R_far (p := ⟨gb114, 0, none⟩) (Kd.R_types HO112.out BK114.out (by decide)) (fun _ hk => hk.2) (.slice Ao7 t101.length co7)) (fun _ hk => hk.2) (.slice Ao9 t104.length co9)) (fun _ hk => hk.2) (.slice Ao10 t107.length co10)) (fun _ hk => hk.2) (.slice Ao11 t110.length co11)) (fun _ hk => ⟨hk.1, hk.1⟩)⟩, ⟨by (with_reducible repeat (first | refine blk_drewN ?_ _ | refine blk_drew ?_ | refine blk_alloc ?_ _)); refine blk_put (cs := #[.slice Ao7 t101.length co7, .slice Ao9 t104.length co9, .slice Ao10 t107.length co10, .slice none 0 0]) ?_ 3 _ rfl; (with_reducible repeat (first | refine blk_drewN ?_ _ | refine blk_drew ?_ | refine blk_alloc ?_ _)); refine blk_put (cs := #[.slice Ao7 t101.length co7, .slice Ao9 t104.length co9, .slice none 0 0, .slice none 0 0]) ?_ 2 _ rfl; (with_reducible repeat (first | refine blk_drewN ?_ _ | refine blk_drew ?_ | refine blk_alloc ?_ _)); refine blk_put (cs := #[.slice Ao7 t101.length co7, .slice none 0 0, .slice none 0 0, .slice none 0 0]) ?_ 1 _ rfl; (with_reducible repeat (first | refine blk_drewN ?_ _ | refine blk_drew ?_ | refine blk_alloc ?_ _)); refine blk_put (cs := #[.slice none 0 0, .slice none 0 0, .slice none 0 0, .slice none 0 0]) ?_ 0 _ rfl; exact blc⟩, ⟨bel HB⟩⟩
  case round =>
   clear H'
   try clear c1
   try clear p2
   try clear c3
   try clear hcz8_0
   try clear hcz8_1
   try clear hcz8_2
   try clear hcz8_3
   try clear hfz8_0
   try clear hfz8_1
   try clear hfz8_2
   try clear hfz8_3
   obtain ⟨x8_1, x24_1, rfl, rfl, HA, HK1, HO_22, HO_115000, HO_115001, HO_115002, HO_115003, BK114, HB⟩ := hrel
   cases gk with
   | zero => exact absurd HA.out (by simp [impl_FarthestOf.l0])
   | succ k1 =>
    have H := HA.out
    clear HA
    simp only [impl_FarthestOf.l0] at H
    by_cases c12 : x24_1 < (t101.length : Int)
    ·rw [if_pos c12] at H
     have c12b0 : decide (x24_1 < (t101.length : Int)) = true := decide_eq_true c12
     clear c12
     by_cases c13 : 0 ≤ x24_1
     ·rw [if_pos c13] at H
      have c13b0 : decide (0 ≤ x24_1) = true := decide_eq_true c13
      clear c13
      by_cases c14 : x24_1 < (t101.length : Int)
      ·rw [if_pos c14] at H
       have c14b0 : decide (x24_1 < (t101.length : Int)) = true := decide_eq_true c14
       clear c14
       by_cases c15 : x24_1 < (t104.length : Int)
       ·rw [if_pos c15] at H
        have c15b0 : decide (x24_1 < (t104.length : Int)) = true := decide_eq_true c15
        clear c15
        by_cases c16 : (rd t104 x24_1) = t115
        ·rw [if_pos c16] at H
         have c16b0 : ((rd t104 x24_1) == t115) = true := beq_iff_eq.mpr c16
         have c16b1 : ((rd t104 x24_1) != t115) = false := bne_eq_false_iff_eq.mpr c16
         clear c16
         by_cases c17 : x8_1.toList = ([] : List UInt8)
         ·rw [if_pos c17] at H
          have c17b0 : (x8_1.toList == ([] : List UInt8)) = true := beq_iff_eq.mpr c17
          have c17b1 : (x8_1.toList != ([] : List UInt8)) = false := bne_eq_false_iff_eq.mpr c17
          clear c17
          have H' := Aside0.mk H
          clear H
          have p116 : 0 ≤ (x24_1 : Int) := of_decide_eq_true (by first | (with_reducible assumption) | assumption)
          have q116 : x24_1 < (t101.length : Int) := of_decide_eq_true (by first | (with_reducible assumption) | assumption)
          obtain ⟨ad116, e116, hx116_0⟩ := Kd.at_string (Kd.R_reads' HO_22.out).2.2 x24_1 p116 q116
          cases e116
          replace p116 := eq_true p116
          replace q116 := eq_true q116
          have hcz18_0 : wr.cell? ⟨gb114, 0, none⟩ = some (.slice (some ad116) t101.length co7) := (blk_cell BK114.out 0).trans rfl
          have hcz18_1 : wr.cell? ⟨gb114, 1, none⟩ = some (.slice Ao9 t104.length co9) := (blk_cell BK114.out 1).trans rfl
          have hcz18_2 : wr.cell? ⟨gb114, 2, none⟩ = some (.slice Ao10 t107.length co10) := (blk_cell BK114.out 2).trans rfl
          have hcz18_3 : wr.cell? ⟨gb114, 3, none⟩ = some (.slice Ao11 t110.length co11) := (blk_cell BK114.out 3).trans rfl
          have hfz18_0 := blk_frozen BK114.out 0
          have hfz18_1 := blk_frozen BK114.out 1
          have hfz18_2 := blk_frozen BK114.out 2
          have hfz18_3 := blk_frozen BK114.out 3
          have p117 : 0 ≤ (x24_1 : Int) := of_decide_eq_true (by first | (with_reducible assumption) | assumption)
          have q117 : x24_1 < (t104.length : Int) := of_decide_eq_true (by first | (with_reducible assumption) | assumption)
          obtain ⟨ad117, e117, hx117_0⟩ := Kd.at_int (Kd.R_reads' HO_115001.out).2.2 x24_1 p117 q117
          cases e117
          replace p117 := eq_true p117
          replace q117 := eq_true q117
          go_wp2
          go_roundg k1
          case measure => have := HK1.out; omega
          case rel => exact ⟨(rdOf ByteArray.empty t101 x24_1), (wrap64 (x24_1 + 1)), (by first | rfl | (simp; done) | (simp [*]; done) | (simp [nil_bool]; done)), (by first | rfl | (simp; done) | (simp [*]; done) | (simp [nil_bool]; done)), H', ⟨by have := HK1.out; omega⟩, ⟨rch HO_22⟩, ⟨rch HO_115000⟩, ⟨rch HO_115001⟩, ⟨by (with_reducible repeat (first | apply Kd.S_alloc | apply Kd.S_drewN | apply Kd.S_drew)); (first | exact HO_115002.out | exact R_any HO_115002.out)⟩, ⟨rch HO_115003⟩, ⟨blc⟩, ⟨bel HB⟩⟩
         ·rw [if_neg c17] at H
          have c17b0 : (x8_1.toList == ([] : List UInt8)) = false := beq_eq_false_iff_ne.mpr c17
          have c17b1 : (x8_1.toList != ([] : List UInt8)) = true := bne_iff_ne.mpr c17
          by_cases c19 : (Op.bytesLess ((rdOf ByteArray.empty t101 x24_1).toList) x8_1.toList) = true
          ·rw [if_pos c19] at H
           have c19b0 : (Op.bytesLess ((rdOf ByteArray.empty t101 x24_1).toList) x8_1.toList) = true := c19
           clear c19
           have H' := Aside0.mk H
           clear H
           have p116 : 0 ≤ (x24_1 : Int) := of_decide_eq_true (by first | (with_reducible assumption) | assumption)
           have q116 : x24_1 < (t101.length : Int) := of_decide_eq_true (by first | (with_reducible assumption) | assumption)
           obtain ⟨ad116, e116, hx116_0⟩ := Kd.at_string (Kd.R_reads' HO_22.out).2.2 x24_1 p116 q116
           cases e116
           replace p116 := eq_true p116
           replace q116 := eq_true q116
           have hcz20_0 : wr.cell? ⟨gb114, 0, none⟩ = some (.slice (some ad116) t101.length co7) := (blk_cell BK114.out 0).trans rfl
           have hcz20_1 : wr.cell? ⟨gb114, 1, none⟩ = some (.slice Ao9 t104.length co9) := (blk_cell BK114.out 1).trans rfl
           have hcz20_2 : wr.cell? ⟨gb114, 2, none⟩ = some (.slice Ao10 t107.length co10) := (blk_cell BK114.out 2).trans rfl
           have hcz20_3 : wr.cell? ⟨gb114, 3, none⟩ = some (.slice Ao11 t110.length co11) := (blk_cell BK114.out 3).trans rfl
           have hfz20_0 := blk_frozen BK114.out 0
           have hfz20_1 := blk_frozen BK114.out 1
           have hfz20_2 := blk_frozen BK114.out 2
           have hfz20_3 := blk_frozen BK114.out 3
           have p117 : 0 ≤ (x24_1 : Int) := of_decide_eq_true (by first | (with_reducible assumption) | assumption)
           have q117 : x24_1 < (t104.length : Int) := of_decide_eq_true (by first | (with_reducible assumption) | assumption)
           obtain ⟨ad117, e117, hx117_0⟩ := Kd.at_int (Kd.R_reads' HO_115001.out).2.2 x24_1 p117 q117
           cases e117
           replace p117 := eq_true p117
           replace q117 := eq_true q117
           go_wp2
           go_roundg k1
           case measure => have := HK1.out; omega
           case rel => exact ⟨(rdOf ByteArray.empty t101 x24_1), (wrap64 (x24_1 + 1)), (by first | rfl | (simp; done) | (simp [*]; done) | (simp [nil_bool]; done)), (by first | rfl | (simp; done) | (simp [*]; done) | (simp [nil_bool]; done)), H', ⟨by have := HK1.out; omega⟩, ⟨rch HO_22⟩, ⟨rch HO_115000⟩, ⟨rch HO_115001⟩, ⟨by (with_reducible repeat (first | apply Kd.S_alloc | apply Kd.S_drewN | apply Kd.S_drew)); (first | exact HO_115002.out | exact R_any HO_115002.out)⟩, ⟨rch HO_115003⟩, ⟨blc⟩, ⟨bel HB⟩⟩
          ·rw [if_neg c19] at H
           have c19b0 : (Op.bytesLess ((rdOf ByteArray.empty t101 x24_1).toList) x8_1.toList) = false := by simpa using c19
           clear c19
           have H' := Aside0.mk H
           clear H
           have p116 : 0 ≤ (x24_1 : Int) := of_decide_eq_true (by first | (with_reducible assumption) | assumption)
           have q116 : x24_1 < (t101.length : Int) := of_decide_eq_true (by first | (with_reducible assumption) | assumption)
           obtain ⟨ad116, e116, hx116_0⟩ := Kd.at_string (Kd.R_reads' HO_22.out).2.2 x24_1 p116 q116
           cases e116
           replace p116 := eq_true p116
           replace q116 := eq_true q116
           have hcz21_0 : wr.cell? ⟨gb114, 0, none⟩ = some (.slice (some ad116) t101.length co7) := (blk_cell BK114.out 0).trans rfl
           have hcz21_1 : wr.cell? ⟨gb114, 1, none⟩ = some (.slice Ao9 t104.length co9) := (blk_cell BK114.out 1).trans rfl
           have hcz21_2 : wr.cell? ⟨gb114, 2, none⟩ = some (.slice Ao10 t107.length co10) := (blk_cell BK114.out 2).trans rfl
           have hcz21_3 : wr.cell? ⟨gb114, 3, none⟩ = some (.slice Ao11 t110.length co11) := (blk_cell BK114.out 3).trans rfl
           have hfz21_0 := blk_frozen BK114.out 0
           have hfz21_1 := blk_frozen BK114.out 1
           have hfz21_2 := blk_frozen BK114.out 2
           have hfz21_3 := blk_frozen BK114.out 3
           have p117 : 0 ≤ (x24_1 : Int) := of_decide_eq_true (by first | (with_reducible assumption) | assumption)
           have q117 : x24_1 < (t104.length : Int) := of_decide_eq_true (by first | (with_reducible assumption) | assumption)
           obtain ⟨ad117, e117, hx117_0⟩ := Kd.at_int (Kd.R_reads' HO_115001.out).2.2 x24_1 p117 q117
           cases e117
           replace p117 := eq_true p117
           replace q117 := eq_true q117
           go_wp2
           go_roundg k1
           case measure => have := HK1.out; omega
           case rel => exact ⟨(x8_1), (wrap64 (x24_1 + 1)), (by first | rfl | (simp; done) | (simp [*]; done) | (simp [nil_bool]; done)), (by first | rfl | (simp; done) | (simp [*]; done) | (simp [nil_bool]; done)), H', ⟨by have := HK1.out; omega⟩, ⟨rch HO_22⟩, ⟨rch HO_115000⟩, ⟨rch HO_115001⟩, ⟨by (with_reducible repeat (first | apply Kd.S_alloc | apply Kd.S_drewN | apply Kd.S_drew)); (first | exact HO_115002.out | exact R_any HO_115002.out)⟩, ⟨rch HO_115003⟩, ⟨blc⟩, ⟨bel HB⟩⟩
        ·rw [if_neg c16] at H
         have c16b0 : ((rd t104 x24_1) == t115) = false := beq_eq_false_iff_ne.mpr c16
         have c16b1 : ((rd t104 x24_1) != t115) = true := bne_iff_ne.mpr c16
         have H' := Aside0.mk H
         clear H
         have p116 : 0 ≤ (x24_1 : Int) := of_decide_eq_true (by first | (with_reducible assumption) | assumption)
         have q116 : x24_1 < (t101.length : Int) := of_decide_eq_true (by first | (with_reducible assumption) | assumption)
         obtain ⟨ad116, e116, hx116_0⟩ := Kd.at_string (Kd.R_reads' HO_22.out).2.2 x24_1 p116 q116
         cases e116
         replace p116 := eq_true p116
         replace q116 := eq_true q116
         have hcz22_0 : wr.cell? ⟨gb114, 0, none⟩ = some (.slice (some ad116) t101.length co7) := (blk_cell BK114.out 0).trans rfl
         have hcz22_1 : wr.cell? ⟨gb114, 1, none⟩ = some (.slice Ao9 t104.length co9) := (blk_cell BK114.out 1).trans rfl
         have hcz22_2 : wr.cell? ⟨gb114, 2, none⟩ = some (.slice Ao10 t107.length co10) := (blk_cell BK114.out 2).trans rfl
         have hcz22_3 : wr.cell? ⟨gb114, 3, none⟩ = some (.slice Ao11 t110.length co11) := (blk_cell BK114.out 3).trans rfl
         have hfz22_0 := blk_frozen BK114.out 0
         have hfz22_1 := blk_frozen BK114.out 1
         have hfz22_2 := blk_frozen BK114.out 2
         have hfz22_3 := blk_frozen BK114.out 3
         have p117 : 0 ≤ (x24_1 : Int) := of_decide_eq_true (by first | (with_reducible assumption) | assumption)
         have q117 : x24_1 < (t104.length : Int) := of_decide_eq_true (by first | (with_reducible assumption) | assumption)
         obtain ⟨ad117, e117, hx117_0⟩ := Kd.at_int (Kd.R_reads' HO_115001.out).2.2 x24_1 p117 q117
         cases e117
         replace p117 := eq_true p117
         replace q117 := eq_true q117
         go_wp2
         go_roundg k1
         case measure => have := HK1.out; omega
         case rel => exact ⟨(x8_1), (wrap64 (x24_1 + 1)), (by first | rfl | (simp; done) | (simp [*]; done) | (simp [nil_bool]; done)), (by first | rfl | (simp; done) | (simp [*]; done) | (simp [nil_bool]; done)), H', ⟨by have := HK1.out; omega⟩, ⟨rch HO_22⟩, ⟨rch HO_115000⟩, ⟨rch HO_115001⟩, ⟨by (with_reducible repeat (first | apply Kd.S_alloc | apply Kd.S_drewN | apply Kd.S_drew)); (first | exact HO_115002.out | exact R_any HO_115002.out)⟩, ⟨rch HO_115003⟩, ⟨blc⟩, ⟨bel HB⟩⟩
       ·rw [if_neg c15] at H
        exact absurd H (by simp)
      ·rw [if_neg c14] at H
       exact absurd H (by simp)
     ·rw [if_neg c13] at H
      exact absurd H (by simp)
    ·rw [if_neg c12] at H
     have c12b0 : decide (x24_1 < (t101.length : Int)) = false := decide_eq_false c12
     clear c12
     simp only [Option.some.injEq, Prod.mk.injEq] at H
     obtain ⟨rfl, rfl, rfl⟩ := H
     go_wp2
     go_ret3
     exact ⟨by first | rfl | (simp [errW_none, errW_some] <;> rfl) | (simp [*, errW_none, errW_some] <;> rfl), bel HB⟩
 ·replace c3 := Bool.eq_false_iff.mpr c3
  subst c3
  have H1 : (some (0, (⟨#[]⟩ : ByteArray), false)) = some (r1, r2, r3) := by rw [if_neg (show ¬ (false = true) by decide)] at H; exact H
  clear H
  have H := H1
  clear H1
  simp only [Option.some.injEq, Prod.mk.injEq] at H
  obtain ⟨rfl, rfl, rfl⟩ := H
  go_enter Tryz.func19, Tryz.ntmps19
  go_wp2_with (first | ((with_reducible refine gate_callee (f := 31) rfl ?_); refine gcall (some 13) Tryz.func31 #[.string a0] rfl ?_; (with_reducible refine (impl_reachOf.calls k a0 t101 t104 t107 t110 false _ ?side1 A2.out).mono ?_); (case side1 => (refine GoodW.below HG.out ?_); exact bel HB); rintro e w23 ⟨v102, v105, v108, v111, rfl, ho0, ho1, ho2, ho3, hb⟩; refine ⟨_, rfl, ?_⟩; have n0_ := Aside0.mk (Kd.R_lower ho0 (below_size (bel HB))); have n1_ := Aside0.mk (Kd.R_lower ho1 (below_size (bel HB))); have n2_ := Aside0.mk (Kd.S_lower ho2 (below_size (bel HB))); have n3_ := Aside0.mk (Kd.R_lower ho3 (below_size (bel HB))); have n4_ := Aside0.mk (below_step (bel HB) hb); clear HB; have HO103 := n0_; have HO106 := n1_; have HO109 := n2_; have HO112 := n3_; have HB := n4_; clear n0_ n1_ n2_ n3_ n4_; (try clear hb); (try clear hb2); (try clear hk); (try clear hi); (try clear ho0); (try clear ho1); (try clear ho2); (try clear ho3)) | ((with_reducible refine gate_dst (N := 5) rfl ?_); refine boxE (N := 5) (cs := #[.slice none 0 0, .slice none 0 0, .slice none 0 0, .slice none 0 0]) (t := 51) ?_; intro gb114 hg w24 hbox hb; have n0_ := Aside0.mk (Kd.R_below (rch HO103) hb); have n1_ := Aside0.mk (Kd.R_below (rch HO106) hb); have n2_ := Aside0.mk (Kd.S_below (by (with_reducible repeat (first | apply Kd.S_alloc | apply Kd.S_drewN | apply Kd.S_drew)); (first | exact HO109.out | exact R_any HO109.out)) hb); have n3_ := Aside0.mk (Kd.R_below (rch HO112) hb); have n4_ := Aside0.mk (below_step (bel HB) hb); have n5_ := Aside0.mk (hbox); have n6_ := Aside0.mk (gsz hg (bel HB)); have n7_ := Aside0.mk (gsz hg (bel HB)); clear HO103; clear HO106; clear HO109; clear HO112; clear HB; have HO103 := n0_; have HO106 := n1_; have HO109 := n2_; have HO112 := n3_; have HB := n4_; have BK114 := n5_; have GW114 := n6_; have GE114 := n7_; clear n0_ n1_ n2_ n3_ n4_ n5_ n6_ n7_; clear hb hbox hg; obtain ⟨Ao25, co25, eo25⟩ := Kd.R_slice HO103.out; subst eo25; have hcz26_0 : w24.cell? ⟨gb114, 0, none⟩ = some (.slice none 0 0) := (blk_cell BK114.out 0).trans rfl; have hcz26_1 : w24.cell? ⟨gb114, 1, none⟩ = some (.slice none 0 0) := (blk_cell BK114.out 1).trans rfl; have hcz26_2 : w24.cell? ⟨gb114, 2, none⟩ = some (.slice none 0 0) := (blk_cell BK114.out 2).trans rfl; have hcz26_3 : w24.cell? ⟨gb114, 3, none⟩ = some (.slice none 0 0) := (blk_cell BK114.out 3).trans rfl; have hfz26_0 := blk_frozen BK114.out 0; have hfz26_1 := blk_frozen BK114.out 1; have hfz26_2 := blk_frozen BK114.out 2; have hfz26_3 := blk_frozen BK114.out 3; obtain ⟨Ao27, co27, eo27⟩ := Kd.R_slice HO106.out; subst eo27; obtain ⟨Ao28, co28, eo28⟩ := Kd.S_slice HO109.out; subst eo28; obtain ⟨Ao29, co29, eo29⟩ := Kd.R_slice HO112.out; subst eo29))
  go_ret3
  exact ⟨by first | rfl | (simp [errW_none, errW_some] <;> rfl) | (simp [*, errW_none, errW_some] <;> rfl), bel HB⟩
def laws_FnExactFarthestOf.f (k : Nat) (a0 : ByteArray) : Option (Bool) := if (a0.size : Int) > 1048576 then (some true) else ((spec_FarthestOf.f k a0).bind fun bt101 => ((impl_FarthestOf.f k a0).bind fun bt104 => (if bt104.1 = bt101.1 then (if bt104.2.1.toList = bt101.2.1.toList then (if (bt104.2.2 != bt101.2.2) = true then (some false) else (some true)) else (some false)) else (some false))))
set_option maxHeartbeats 8000000 in
set_option maxRecDepth 100000 in
theorem laws_FnExactFarthestOf.calls (k : Nat) (a0 : ByteArray) (r : Bool) (w : World) (hG : GoodW w) (h : laws_FnExactFarthestOf.f k a0 = some r) :
  Calls Tryz.prog 5 #[.string a0] w fun e w' => e = .returned (.bool r) ∧ Below w.heap.size w w' := by
 have HG := Aside0.mk hG
 clear hG
 have HB := Aside0.mk (Below.refl w.heap.size w)
 have H : (if (a0.size : Int) > 1048576 then (some true) else ((spec_FarthestOf.f k a0).bind fun bt101 => ((impl_FarthestOf.f k a0).bind fun bt104 => (if bt104.1 = bt101.1 then (if bt104.2.1.toList = bt101.2.1.toList then (if (bt104.2.2 != bt101.2.2) = true then (some false) else (some true)) else (some false)) else (some false))))) = some r := h
 clear h
 by_cases c2 : (a0.size : Int) > 1048576
 ·rw [if_pos c2] at H
  have c2b0 : decide (1048576 < (a0.size : Int)) = true := decide_eq_true c2
  have c2b1 : decide (1048576 < a0.size) = true := decide_eq_true (by omega)
  clear c2
  obtain rfl := Option.some.inj H
  go_enter Tryz.func5, Tryz.ntmps5
  go_wp2
  go_ret
  exact ⟨by first | rfl | (simp [errW_none, errW_some] <;> rfl) | (simp [*, errW_none, errW_some] <;> rfl), bel HB⟩
 ·rw [if_neg c2] at H
  have c2b0 : decide (1048576 < (a0.size : Int)) = false := decide_eq_false c2
  have c2b1 : decide (1048576 < a0.size) = false := decide_eq_false (by omega)
  clear c2
  replace H := Option.bind_eq_some_iff.mp H
  obtain ⟨⟨t101, t102, t103⟩, A30, H⟩ := H
  replace H : ((impl_FarthestOf.f k a0).bind fun bt104 => (if bt104.1 = t101 then (if bt104.2.1.toList = t102.toList then (if (bt104.2.2 != t103) = true then (some false) else (some true)) else (some false)) else (some false))) = some r := H
  have A3 := Aside0.mk A30
  clear A30
  replace H := Option.bind_eq_some_iff.mp H
  obtain ⟨⟨t104, t105, t106⟩, A40, H⟩ := H
  replace H : (if t104 = t101 then (if t105.toList = t102.toList then (if (t106 != t103) = true then (some false) else (some true)) else (some false)) else (some false)) = some r := H
  have A4 := Aside0.mk A40
  clear A40
  by_cases c5 : t104 = t101
  ·rw [if_pos c5] at H
   have c5b0 : (t104 == t101) = true := beq_iff_eq.mpr c5
   have c5b1 : (t104 != t101) = false := bne_eq_false_iff_eq.mpr c5
   clear c5
   by_cases c6 : t105.toList = t102.toList
   ·rw [if_pos c6] at H
    have c6b0 : (t105.toList == t102.toList) = true := beq_iff_eq.mpr c6
    have c6b1 : (t105.toList != t102.toList) = false := bne_eq_false_iff_eq.mpr c6
    clear c6
    by_cases c7 : (t106 != t103) = true
    ·rw [if_pos c7] at H
     have c7b0 : (t106 != t103) = true := c7
     (try (have c7b1 : decide (t106 = t103) = false := by simpa using c7))
     (try (have c7b2 : (t106 == t103) = false := by simpa using c7))
     (try (have c7b3 : ¬ (t106 = t103) := by simpa using c7))
     clear c7
     obtain rfl := Option.some.inj H
     go_enter Tryz.func5, Tryz.ntmps5
     go_wp2_with (first | ((with_reducible refine gate_callee (f := 18) rfl ?_); refine gcall (some 14) Tryz.func18 #[.string a0] rfl ?_; (with_reducible refine (spec_FarthestOf.calls k a0 t101 t102 t103 _ A3.out).mono ?_); rintro e w8 ⟨rfl, hb⟩; refine ⟨_, rfl, ?_⟩; have n0_ := Aside0.mk (below_step (bel HB) hb); clear HB; have HB := n0_; clear n0_; (try clear hb); (try clear hb2); (try clear hk); (try clear hi)) | ((with_reducible refine gate_callee (f := 19) rfl ?_); refine gcall (some 20) Tryz.func19 #[.string a0] rfl ?_; (with_reducible refine (impl_FarthestOf.calls k a0 t104 t105 t106 _ ?side1 A4.out).mono ?_); (case side1 => (refine GoodW.below HG.out ?_); exact bel HB); rintro e w9 ⟨rfl, hb⟩; refine ⟨_, rfl, ?_⟩; have n0_ := Aside0.mk (below_step (bel HB) hb); clear HB; have HB := n0_; clear n0_; (try clear hb); (try clear hb2); (try clear hk); (try clear hi)))
     go_ret
     exact ⟨by first | rfl | (simp [errW_none, errW_some] <;> rfl) | (simp [*, errW_none, errW_some] <;> rfl), bel HB⟩
    ·rw [if_neg c7] at H
     have c7b0 : (t106 != t103) = false := by simpa using c7
     (try (have c7b1 : decide (t106 = t103) = true := by simpa using c7))
     (try (have c7b2 : (t106 == t103) = true := by simpa using c7))
     clear c7
     obtain rfl := Option.some.inj H
     go_enter Tryz.func5, Tryz.ntmps5
     go_wp2_with (first | ((with_reducible refine gate_callee (f := 18) rfl ?_); refine gcall (some 14) Tryz.func18 #[.string a0] rfl ?_; (with_reducible refine (spec_FarthestOf.calls k a0 t101 t102 t103 _ A3.out).mono ?_); rintro e w10 ⟨rfl, hb⟩; refine ⟨_, rfl, ?_⟩; have n0_ := Aside0.mk (below_step (bel HB) hb); clear HB; have HB := n0_; clear n0_; (try clear hb); (try clear hb2); (try clear hk); (try clear hi)) | ((with_reducible refine gate_callee (f := 19) rfl ?_); refine gcall (some 20) Tryz.func19 #[.string a0] rfl ?_; (with_reducible refine (impl_FarthestOf.calls k a0 t104 t105 t106 _ ?side1 A4.out).mono ?_); (case side1 => (refine GoodW.below HG.out ?_); exact bel HB); rintro e w11 ⟨rfl, hb⟩; refine ⟨_, rfl, ?_⟩; have n0_ := Aside0.mk (below_step (bel HB) hb); clear HB; have HB := n0_; clear n0_; (try clear hb); (try clear hb2); (try clear hk); (try clear hi)))
     go_ret
     exact ⟨by first | rfl | (simp [errW_none, errW_some] <;> rfl) | (simp [*, errW_none, errW_some] <;> rfl), bel HB⟩
   ·rw [if_neg c6] at H
    have c6b0 : (t105.toList == t102.toList) = false := beq_eq_false_iff_ne.mpr c6
    have c6b1 : (t105.toList != t102.toList) = true := bne_iff_ne.mpr c6
    obtain rfl := Option.some.inj H
    go_enter Tryz.func5, Tryz.ntmps5
    go_wp2_with (first | ((with_reducible refine gate_callee (f := 18) rfl ?_); refine gcall (some 14) Tryz.func18 #[.string a0] rfl ?_; (with_reducible refine (spec_FarthestOf.calls k a0 t101 t102 t103 _ A3.out).mono ?_); rintro e w12 ⟨rfl, hb⟩; refine ⟨_, rfl, ?_⟩; have n0_ := Aside0.mk (below_step (bel HB) hb); clear HB; have HB := n0_; clear n0_; (try clear hb); (try clear hb2); (try clear hk); (try clear hi)) | ((with_reducible refine gate_callee (f := 19) rfl ?_); refine gcall (some 20) Tryz.func19 #[.string a0] rfl ?_; (with_reducible refine (impl_FarthestOf.calls k a0 t104 t105 t106 _ ?side1 A4.out).mono ?_); (case side1 => (refine GoodW.below HG.out ?_); exact bel HB); rintro e w13 ⟨rfl, hb⟩; refine ⟨_, rfl, ?_⟩; have n0_ := Aside0.mk (below_step (bel HB) hb); clear HB; have HB := n0_; clear n0_; (try clear hb); (try clear hb2); (try clear hk); (try clear hi)))
    go_ret
    exact ⟨by first | rfl | (simp [errW_none, errW_some] <;> rfl) | (simp [*, errW_none, errW_some] <;> rfl), bel HB⟩
  ·rw [if_neg c5] at H
   have c5b0 : (t104 == t101) = false := beq_eq_false_iff_ne.mpr c5
   have c5b1 : (t104 != t101) = true := bne_iff_ne.mpr c5
   obtain rfl := Option.some.inj H
   go_enter Tryz.func5, Tryz.ntmps5
   go_wp2_with (first | ((with_reducible refine gate_callee (f := 18) rfl ?_); refine gcall (some 14) Tryz.func18 #[.string a0] rfl ?_; (with_reducible refine (spec_FarthestOf.calls k a0 t101 t102 t103 _ A3.out).mono ?_); rintro e w14 ⟨rfl, hb⟩; refine ⟨_, rfl, ?_⟩; have n0_ := Aside0.mk (below_step (bel HB) hb); clear HB; have HB := n0_; clear n0_; (try clear hb); (try clear hb2); (try clear hk); (try clear hi)) | ((with_reducible refine gate_callee (f := 19) rfl ?_); refine gcall (some 20) Tryz.func19 #[.string a0] rfl ?_; (with_reducible refine (impl_FarthestOf.calls k a0 t104 t105 t106 _ ?side1 A4.out).mono ?_); (case side1 => (refine GoodW.below HG.out ?_); exact bel HB); rintro e w15 ⟨rfl, hb⟩; refine ⟨_, rfl, ?_⟩; have n0_ := Aside0.mk (below_step (bel HB) hb); clear HB; have HB := n0_; clear n0_; (try clear hb); (try clear hb2); (try clear hk); (try clear hi)))
   go_ret
   exact ⟨by first | rfl | (simp [errW_none, errW_some] <;> rfl) | (simp [*, errW_none, errW_some] <;> rfl), bel HB⟩
end Go.Proofs.YtchkmhbngbgjnaaGreatDoor.Q
end
section
namespace Go.Proofs.YtchkmhbngbgjnaaGreatDoor.Q
set_option linter.unusedSectionVars false
open Go.RowKit Go.Proofs.YtchkmhbngbgjnaaGreatDoorW.PrintWords Go.Proofs.YtchkmhbngbgjnaaGreatDoorW.PrintLast Go.Proofs.YtchkmhbngbgjnaaGreatDoorW.PrintMore
open Classical
def fb (M : Int) : List (Int × ByteArray) → ByteArray → ByteArray
 | [], f => f
 | z :: L, f => if z.1 = M then (if f.toList = [] then fb M L z.2 else if Op.bytesLess z.2.toList f.toList = true then fb M L z.2 else fb M L f) else fb M L f
def fm (L : List (Int × ByteArray)) (m : Int) : Int := (L.map Prod.fst).foldl max m
theorem fm_cons (z : Int × ByteArray) (L : List (Int × ByteArray)) (m : Int) : fm (z :: L) m = fm L (max m z.1) := rfl
theorem fm_ge : ∀ (L : List (Int × ByteArray)) (m : Int), m ≤ fm L m
 | [], m => Int.le_refl _
 | z :: L, m => by
  rw [fm_cons]
  exact Int.le_trans (Int.le_max_left _ _) (fm_ge L _)
def pz (z : Zs) : Int × ByteArray := (z.far, z.text)
theorem farZ_fb : ∀ (L : List Zs) (m : Int) (f : ByteArray), (∀ z ∈ L, 0 ≤ z.far ∧ z.text.toList ≠ []) → (f.toList ≠ [] ∨ m < 0) → farZ L m f = (fm (L.map pz) m, if fm (L.map pz) m = m then fb m (L.map pz) f else fb (fm (L.map pz) m) (L.map pz) ⟨#[]⟩)
 | [], m, f, _, _ => by
  show (m, f) = (m, if m = m then f else _)
  rw [if_pos rfl]
 | z :: L, m, f, hz, hf => by
  obtain ⟨h0, h1⟩ := hz z (by simp)
  have hz' : ∀ z ∈ L, 0 ≤ z.far ∧ z.text.toList ≠ [] := fun y hy => hz y (by simp [hy])
  have e0 : (⟨#[]⟩ : ByteArray).toList = [] := by rw [ByteArray.toList_mk]
  rw [List.map_cons, fm_cons, farZ]
  show _ = (fm (L.map pz) (max m z.far), if fm (L.map pz) (max m z.far) = m then fb m (pz z :: L.map pz) f else fb (fm (L.map pz) (max m z.far)) (pz z :: L.map pz) ⟨#[]⟩)
  have hge := fm_ge (L.map pz) (max m z.far)
  by_cases hlt : m < z.far
  ·rw [if_pos hlt, farZ_fb L z.far z.text hz' (.inl h1), show max m z.far = z.far by omega]
   rw [show max m z.far = z.far by omega] at hge
   rw [if_neg (show ¬ fm (L.map pz) z.far = m by omega)]
   congr 1
   rw [fb]
   by_cases e : z.far = fm (L.map pz) z.far
   ·rw [if_pos e.symm, if_pos (show (pz z).1 = _ from e), if_pos e0, ← e]
    rfl
   ·rw [if_neg fun e2 => e e2.symm, if_neg (show ¬ (pz z).1 = _ from e)]
  ·rw [if_neg hlt, show max m z.far = m by omega]
   rw [show max m z.far = m by omega] at hge
   by_cases e : z.far = m
   ·have hfn : f.toList ≠ [] := hf.resolve_right (by omega)
    rw [if_pos e]
    by_cases hb : Op.bytesLess z.text.toList f.toList = true
    ·rw [if_pos hb, e, farZ_fb L m z.text hz' (.inl h1)]
     congr 1
     by_cases hM : fm (L.map pz) m = m
     ·rw [if_pos hM, if_pos hM, fb, if_pos (show (pz z).1 = _ from e), if_neg hfn, if_pos (show Op.bytesLess (pz z).2.toList f.toList = true from hb)]
      rfl
     ·rw [if_neg hM, if_neg hM, fb, if_neg (show ¬ (pz z).1 = _ from fun h => hM (h.symm.trans e))]
    ·rw [if_neg hb, farZ_fb L m f hz' hf]
     congr 1
     by_cases hM : fm (L.map pz) m = m
     ·rw [if_pos hM, if_pos hM, fb, if_pos (show (pz z).1 = _ from e), if_neg hfn, if_neg (show ¬ Op.bytesLess (pz z).2.toList f.toList = true from hb)]
     ·rw [if_neg hM, if_neg hM, fb, if_neg (show ¬ (pz z).1 = _ from fun h => hM (h.symm.trans e))]
   ·rw [if_neg e, farZ_fb L m f hz' hf]
    congr 1
    by_cases hM : fm (L.map pz) m = m
    ·rw [if_pos hM, if_pos hM, fb, if_neg (show ¬ (pz z).1 = _ from e)]
    ·rw [if_neg hM, if_neg hM, fb, if_neg (show ¬ (pz z).1 = _ from fun h => by have h2 : z.far = _ := h; omega)]
theorem tx_ne {w h : Nat} {cs : List Int} (hw1 : 1 ≤ w) (hw : w ≤ 7) (hh1 : 1 ≤ h) (hh : h ≤ 7) (hs : w * h ≤ 36) (hc : goodC w h cs) : (tx cs w h).toList ≠ [] := by
 intro h0
 rw [toList_data] at h0
 have hr := tx_rows hw1 hw hh1 hh hs hc.2 hc.1
 have hf := tx_flat hw1 hw hh1 hh hs hc.2 hc.1
 rw [h0] at hr
 rw [← hr] at hf
 have h1 : cs.length = 0 := by rw [← hf]; rfl
 have h2 := Nat.mul_pos hw1 hh1
 have h3 := hc.2
 omega
def pr (w h : Nat) (s : RS) : Int × ByteArray := ((s.far : Int), tx s.x w h)
theorem foundZ_pz (w h : Nat) (p : List RS × List (List Nat)) : (foundZ w h p).map pz = p.1.map (pr w h) := by
 refine List.ext_getElem? fun i => ?_
 unfold foundZ
 rw [List.getElem?_map, List.getElem?_map, zL_at]
 cases p.1[i]? <;> rfl
theorem maxOf_fm : ∀ (L : List (Int × ByteArray)), 0 < L.length → (∀ z ∈ L, 0 ≤ z.1) → Lib.maxOf (L.map Prod.fst) = fm L (-1)
 | [], h, _ => by simp at h
 | z :: L, _, hz => by
  have h0 := hz z (by simp)
  show (z.1 :: L.map Prod.fst).foldl max z.1 = (L.map Prod.fst).foldl max (max (-1) z.1)
  rw [List.foldl_cons, show max z.1 z.1 = z.1 by omega, show max (-1) z.1 = z.1 by omega]
theorem fars_pr (w h : Nat) (L : List RS) : (L.map (pr w h)).map Prod.fst = fars L := by
 unfold fars
 rw [List.map_map]
 rfl
def found3 (t : ByteArray) : Option (List (Int × ByteArray)) := match trayOf t with
 | none => none
 | some (w, h, cs) => (search w.toNat h.toNat cs).map fun p => p.1.map (pr w.toNat h.toNat)
def FarthestOfR (t : ByteArray) : Int × ByteArray × Bool := match found3 t with
 | none => (0, ⟨#[]⟩, false)
 | some L => (fm L (-1), fb (fm L (-1)) L ⟨#[]⟩, true)
section
variable {t : ByteArray} {w h : Nat} {cs : List Int} {p : List RS × List (List Nat)} (H : Found t w h cs p)
include H
theorem far_l0 (M : Int) : ∀ (l : List RS) (i : Nat) (f : ByteArray), p.1.drop i = l → i ≤ p.1.length → Ev (fun k => impl_FarthestOf.l0 k M f (txs w h p.1) ((txs w h p.1).length : Int) (i : Int) (txs w h p.1) (fars p.1) (p.2.map casts) (wds p.1)) (M, fb M (l.map (pr w h)) f, true)
 | [], i, f, hd, hi => by
  have htl : (txs w h p.1).length = p.1.length := by unfold txs; rw [List.length_map]
  have h1 : i = p.1.length := by
   have := congrArg List.length hd
   simp at this
   omega
  refine Ev.step (Ev.const rfl) fun k => ?_
  rw [impl_FarthestOf.l0, if_neg (by rw [htl]; omega)]
  rfl
 | s :: l, i, f, hd, hi => by
  have htl : (txs w h p.1).length = p.1.length := by unfold txs; rw [List.length_map]
  have hfl : (fars p.1).length = p.1.length := by unfold fars; rw [List.length_map]
  have hlen := H.len
  have hs : p.1[i]? = some s := by rw [← List.head?_drop, hd]; rfl
  have hil := (List.getElem?_eq_some_iff.1 hs).1
  have h3 : p.1.drop (i + 1) = l := by rw [← List.tail_drop, hd]; rfl
  have hx : rdOf ByteArray.empty (txs w h p.1) (i : Int) = tx s.x w h := rdOf_map ByteArray.empty (fun s : RS => tx s.x w h) hs
  have ih := fun f => far_l0 M l (i + 1) f h3 hil
  rw [← wr1 i (by omega)] at ih
  have hun : ∀ k, impl_FarthestOf.l0 (k + 1) M f (txs w h p.1) ((txs w h p.1).length : Int) (i : Int) (txs w h p.1) (fars p.1) (p.2.map casts) (wds p.1) = (if ((s.far : Nat) : Int) = M then (if f.toList = ([] : List UInt8) then (impl_FarthestOf.l0 k M (tx s.x w h) (txs w h p.1) ((txs w h p.1).length : Int) (wrap64 ((i : Int) + 1)) (txs w h p.1) (fars p.1) (p.2.map casts) (wds p.1)) else (if (Op.bytesLess (tx s.x w h).toList f.toList) = true then (impl_FarthestOf.l0 k M (tx s.x w h) (txs w h p.1) ((txs w h p.1).length : Int) (wrap64 ((i : Int) + 1)) (txs w h p.1) (fars p.1) (p.2.map casts) (wds p.1)) else (impl_FarthestOf.l0 k M f (txs w h p.1) ((txs w h p.1).length : Int) (wrap64 ((i : Int) + 1)) (txs w h p.1) (fars p.1) (p.2.map casts) (wds p.1)))) else (impl_FarthestOf.l0 k M f (txs w h p.1) ((txs w h p.1).length : Int) (wrap64 ((i : Int) + 1)) (txs w h p.1) (fars p.1) (p.2.map casts) (wds p.1))) := fun k => by
   rw [impl_FarthestOf.l0, if_pos (by rw [htl]; omega), if_pos (by omega), if_pos (by rw [htl]; omega), if_pos (by rw [hfl]; omega), rd_fars hs, hx]
  show Ev _ (M, fb M (pr w h s :: l.map (pr w h)) f, true)
  rw [fb]
  by_cases e : ((s.far : Nat) : Int) = M
  ·rw [if_pos (show (pr w h s).1 = M from e)]
   by_cases e2 : f.toList = []
   ·rw [if_pos e2]
    exact Ev.step (ih (tx s.x w h)) fun k => by rw [hun, if_pos e, if_pos e2]
   ·rw [if_neg e2]
    by_cases e3 : Op.bytesLess (tx s.x w h).toList f.toList = true
    ·rw [if_pos (show Op.bytesLess (pr w h s).2.toList f.toList = true from e3)]
     exact Ev.step (ih (tx s.x w h)) fun k => by rw [hun, if_pos e, if_neg e2, if_pos e3]
    ·rw [if_neg (show ¬ Op.bytesLess (pr w h s).2.toList f.toList = true from e3)]
     exact Ev.step (ih _) fun k => by rw [hun, if_pos e, if_neg e2, if_neg e3]
  ·rw [if_neg (show ¬ (pr w h s).1 = M from e)]
   exact Ev.step (ih _) fun k => by rw [hun, if_neg e]
theorem Found.three : found3 t = some (p.1.map (pr w h)) := by
 unfold found3
 rw [H.tray]
 show (search w h cs).map _ = _
 rw [H.srch]
 rfl
theorem far_pos : 0 ≤ fm (p.1.map (pr w h)) (-1) := by
 obtain ⟨l, e⟩ := H.done.inv.first
 rw [e, List.map_cons, fm_cons]
 exact Int.le_trans (by show (0 : Int) ≤ max (-1) ((0 : Nat) : Int); decide) (fm_ge _ _)
end
theorem specFarthestOf_ev (t : ByteArray) : Ev (fun k => spec_FarthestOf.f k t) (FarthestOfR t) := by
 refine Ev.bind (f := fun _ (a : List Zs × Bool) => (spec_l1Most.f (farZ a.1 (-1) ⟨#[]⟩).1 0).bind fun m => some (m, (farZ a.1 (-1) ⟨#[]⟩).2, a.2)) (reAll_ev t) (Ev.const ?_)
 rcases found_cases t with ⟨h1, h2⟩ | ⟨w, h, cs, p, H⟩
 ·rw [h1, show FarthestOfR t = (0, ⟨#[]⟩, false) from ?_]
  ·rfl
  ·unfold FarthestOfR
   cases hf : found3 t with
   | none => rfl
   | some L =>
    exfalso
    unfold found3 at hf
    unfold reAllR at h1
    rcases ht : trayOf t with _ | ⟨w, h, cs⟩
    ·rw [ht] at hf
     cases hf
    ·rw [ht] at hf h1
     have hf2 : (search w.toNat h.toNat cs).map _ = some L := hf
     cases hp : search w.toNat h.toNat cs with
     | none => rw [hp] at hf2; cases hf2
     | some p =>
      have h3 : foundR w.toNat h.toNat (search w.toNat h.toNat cs) = ([], false) := h1
      rw [hp] at h3
      exact Bool.false_ne_true (congrArg Prod.snd h3).symm
 ·have hp := far_pos H
  rw [H.all]
  show (spec_l1Most.f (farZ (foundZ w h p) (-1) ⟨#[]⟩).1 0).bind _ = _
  have hz : ∀ z ∈ foundZ w h p, 0 ≤ z.far ∧ z.text.toList ≠ [] := fun z hz => by
   obtain ⟨i, hi⟩ := List.getElem?_of_mem hz
   unfold foundZ at hi
   rw [zL_at] at hi
   obtain ⟨s, hs, rfl⟩ := Option.map_eq_some_iff.1 hi
   exact ⟨by show (0 : Int) ≤ ((s.far : Nat) : Int); omega, tx_ne H.hw1 H.hw H.hh1 H.hh H.hs (H.good s (List.mem_of_getElem? hs))⟩
  rw [farZ_fb _ _ _ hz (.inr (by decide)), foundZ_pz, if_neg (by omega)]
  unfold FarthestOfR
  rw [H.three]
  show (spec_l1Most.f (fm (p.1.map (pr w h)) (-1)) 0).bind _ = _
  have hm : spec_l1Most.f (fm (p.1.map (pr w h)) (-1)) 0 = some (fm (p.1.map (pr w h)) (-1)) := by
   unfold spec_l1Most.f
   by_cases h0 : fm (p.1.map (pr w h)) (-1) > 0
   ·rw [if_pos h0]
   ·rw [if_neg h0]
    congr 1
    omega
  rw [hm]
  rfl
theorem implFarthestOf_ev (t : ByteArray) (ht : t.size ≤ 1048576) : Ev (fun k => impl_FarthestOf.f k t) (FarthestOfR t) := by
 refine Ev.bind (f := fun k (bt101 : ReR) => (if bt101.2.2.2.2 = true then ((slices_Max_int.f bt101.2.1).bind fun t115 => (impl_FarthestOf.l0 k t115 (⟨#[]⟩ : ByteArray) bt101.1 (bt101.1.length : Int) 0 bt101.1 bt101.2.1 bt101.2.2.1 bt101.2.2.2.1)) else (some (0, (⟨#[]⟩ : ByteArray), false)))) (reachOf_ev t ht) ?_
 rcases found_cases t with ⟨h1, h2⟩ | ⟨w, h, cs, p, H⟩
 ·rw [h2, show FarthestOfR t = (0, ⟨#[]⟩, false) from ?_]
  ·exact Ev.congr (Ev.const rfl) fun k => if_neg Bool.false_ne_true
  ·unfold FarthestOfR
   cases hf : found3 t with
   | none => rfl
   | some L =>
    exfalso
    unfold found3 at hf
    unfold reAllR at h1
    rcases ht : trayOf t with _ | ⟨w, h, cs⟩
    ·rw [ht] at hf
     cases hf
    ·rw [ht] at hf h1
     have hf2 : (search w.toNat h.toNat cs).map _ = some L := hf
     cases hp : search w.toNat h.toNat cs with
     | none => rw [hp] at hf2; cases hf2
     | some p =>
      have h3 : foundR w.toNat h.toNat (search w.toNat h.toNat cs) = ([], false) := h1
      rw [hp] at h3
      exact Bool.false_ne_true (congrArg Prod.snd h3).symm
 ·have hlen := H.len
  have hpos := H.pos
  have hfl : (fars p.1).length = p.1.length := by unfold fars; rw [List.length_map]
  rw [H.prog]
  unfold FarthestOfR
  rw [H.three]
  have hmx : slices_Max_int.f (fars p.1) = some (fm (p.1.map (pr w h)) (-1)) := by
   unfold slices_Max_int.f
   rw [if_pos (by rw [hfl]; omega), ← fars_pr w h p.1, maxOf_fm _ (by rw [List.length_map]; exact hpos) fun z hz => ?_]
   obtain ⟨s, _, rfl⟩ := List.mem_map.1 hz
   show (0 : Int) ≤ ((s.far : Nat) : Int)
   omega
  refine Ev.congr (far_l0 H (fm (p.1.map (pr w h)) (-1)) p.1 0 ⟨#[]⟩ rfl (Nat.zero_le _)) fun k => ?_
  show (if true = true then ((slices_Max_int.f (fars p.1)).bind _) else _) = _
  rw [if_pos rfl, hmx]
  rfl
theorem lawFarthestOf_ev (t : ByteArray) : Ev (fun k => laws_FnExactFarthestOf.f k t) true := by
 by_cases ht : t.size ≤ 1048576
 case neg =>
  refine Ev.congr (Ev.const (o := some true) rfl) fun k => ?_
  unfold laws_FnExactFarthestOf.f
  exact if_pos (by omega)
 have hsp := specFarthestOf_ev t
 have him := implFarthestOf_ev t ht
 refine Ev.congr (Ev.bind (f := fun k (bt101 : Int × ByteArray × Bool) => ((impl_FarthestOf.f k t).bind fun bt104 => (if bt104.1 = bt101.1 then (if bt104.2.1.toList = bt101.2.1.toList then (if (bt104.2.2 != bt101.2.2) = true then (some false) else (some true)) else (some false)) else (some false)))) hsp (Ev.bind (f := fun _ (bt104 : Int × ByteArray × Bool) => (if bt104.1 = (FarthestOfR t).1 then (if bt104.2.1.toList = (FarthestOfR t).2.1.toList then (if (bt104.2.2 != (FarthestOfR t).2.2) = true then (some false) else (some true)) else (some false)) else (some false))) him (Ev.const ?_))) fun k => by unfold laws_FnExactFarthestOf.f; rw [if_neg (by omega)]
 rw [if_pos rfl, if_pos rfl, bne_self_eq_false, if_neg (by decide)]
end Go.Proofs.YtchkmhbngbgjnaaGreatDoor.Q
end
