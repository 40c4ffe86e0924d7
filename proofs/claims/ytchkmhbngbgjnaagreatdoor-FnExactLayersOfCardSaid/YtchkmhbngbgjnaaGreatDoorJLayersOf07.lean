/- Texts of this claim, joined. -/
import Derived.Test.YtchkmhbngbgjnaaGreatDoorJLayersOf04
import Derived.Test.YtchkmhbngbgjnaaGreatDoorJLayersOf01
import Derived.Test.YtchkmhbngbgjnaaGreatDoorJLayersOf05
import Derived.Test.YtchkmhbngbgjnaaGreatDoorJLayersOf06
set_option linter.unusedVariables false
set_option linter.unusedSimpArgs false
set_option linter.unusedSectionVars false
section
namespace Go.Proofs.YtchkmhbngbgjnaaGreatDoor.Q
set_option linter.unusedSectionVars false
set_option linter.unusedSimpArgs false
open Go.RowKit Go.Proofs.YtchkmhbngbgjnaaGreatDoorW.PrintWords Go.Proofs.YtchkmhbngbgjnaaGreatDoorW.PrintLast Go.Proofs.YtchkmhbngbgjnaaGreatDoorW.PrintMore
theorem drop_zAt {L : List Zs} {i : Nat} (h : i < L.length) : L.drop i = zAt L i :: L.drop (i + 1) ∧ L[i]? = some (zAt L i) := by
 have e : zAt L i = L[i] := by
  unfold zAt
  rw [List.getD_eq_getElem?_getD, List.getElem?_eq_getElem h]
  rfl
 rw [e]
 exact ⟨List.drop_eq_getElem_cons h, List.getElem?_eq_getElem h⟩
set_option maxHeartbeats 4000000 in
set_option maxRecDepth 100000 in
theorem spec_rePlace.calls (A : Option Addr) (n c : Nat) (L : List Zs) (tx : ByteArray) (w : World) (hn : n = L.length) (hL : StC w A L) (hl : L.length ≤ 1000) (hc : n ≤ c) :
  Calls Tryz.prog 49 #[.slice A n c, .string tx] w fun e w' => e = .returned (.int .i64 (zPlace L tx 0)) ∧ Drawn0 w w' := by
 subst hn
 have HL := Aside0.mk hL
 have HC := Aside0.mk hc
 have HN := Aside0.mk hl
 clear hL hc hl
 go_enter Tryz.func49, Tryz.ntmps49
 go_wp2
 go_loopg [9] L.length (fun gg v9 w' => ∃ i : Nat, v9 = .int .i64 i ∧ Aside0 ((i ≤ L.length ∧ L.length - i ≤ gg) ∧ zPlace (L.drop i) tx i = zPlace L tx 0) ∧ Drawn0 w w')
 case atStart => exact ⟨0, by first | rfl | (simp; done), ⟨⟨Nat.zero_le _, Nat.le_refl _⟩, rfl⟩, Drawn0.refl _⟩
 case round =>
  obtain ⟨i, rfl, HA, ⟨m1, rfl⟩⟩ := hrel
  by_cases hli : i < L.length
  ·have c2 : decide ((i : Int) < (L.length : Int)) = true := decide_eq_true (by omega)
   have p1 : (0 ≤ (i : Int)) = True := eq_true (by omega)
   have p2 : ((i : Int) < (L.length : Int)) = True := eq_true (by omega)
   obtain ⟨hd, hat⟩ := drop_zAt hli
   obtain ⟨ad, g, Ag, An, cg, cn, e1, h2, h3, _, _⟩ := HL.out.at' i (zAt L i) hat
   cases e1
   have hz := HA.out.2
   rw [hd, zPlace] at hz
   have HGK := Aside0.mk (show L.length - i ≤ gk ∧ i < L.length from ⟨HA.out.1.2, hli⟩)
   have z3 : w.cell? ⟨g, 3, none⟩ = some (.string (zAt L i).text) := (blk_cell h3 3).trans rfl
   clear h3 hd hat hli HA
   generalize zAt L i = z at z3 hz
   by_cases e : z.text.toList = tx.toList
   ·rw [if_pos e] at hz
    have c6b0 : (z.text.toList == tx.toList) = true := beq_iff_eq.mpr e
    have c6b1 : (z.text.toList != tx.toList) = false := bne_eq_false_iff_eq.mpr e
    have HZ := Aside0.mk hz
    clear e hz
    go_wp2
    go_ret
    exact ⟨congrArg (fun x => Ending.returned (Value.int .i64 x)) HZ.out, by repeat (first | exact Drawn0.refl _ | apply Drawn0.step)⟩
   ·rw [if_neg e] at hz
    have c6b0 : (z.text.toList == tx.toList) = false := beq_eq_false_iff_ne.mpr e
    have c6b1 : (z.text.toList != tx.toList) = true := bne_iff_ne.mpr e
    have HZ := Aside0.mk hz
    clear e hz
    go_wp2
    go_roundg (L.length - (i + 1))
    case measure => have := HGK.out; omega
    case rel => exact ⟨i + 1, by first | rfl | rw [wrap64_nat i (by have := HGK.out; have := HN.out; omega)] | simp, ⟨⟨by have := HGK.out; omega, Nat.le_refl _⟩, HZ.out⟩, by repeat (first | exact Drawn0.refl _ | apply Drawn0.step)⟩
  ·obtain rfl : i = L.length := by have := HA.out.1.1; omega
   have c2 : decide ((L.length : Int) < (L.length : Int)) = false := decide_eq_false (by omega)
   have hz := HA.out.2
   rw [List.drop_length] at hz
   have HZ := Aside0.mk hz
   clear hz HA hli
   go_wp2
   go_ret
   exact ⟨congrArg (fun x => Ending.returned (Value.int .i64 x)) HZ.out, by repeat (first | exact Drawn0.refl _ | apply Drawn0.step)⟩
end Go.Proofs.YtchkmhbngbgjnaaGreatDoor.Q
end
section
namespace Go.Proofs.YtchkmhbngbgjnaaGreatDoor.Q
set_option linter.unusedSectionVars false
set_option linter.unusedSimpArgs false
open Go.RowKit Go.Proofs.YtchkmhbngbgjnaaGreatDoorW.PrintWords Go.Proofs.YtchkmhbngbgjnaaGreatDoorW.PrintLast Go.Proofs.YtchkmhbngbgjnaaGreatDoorW.PrintMore
theorem zAt_map {M : List Zm} {i : Nat} {m : Zm} (h : M[i]? = some m) : zAt (M.map Zm.z) i = m.z := by
 unfold zAt
 rw [List.getD_eq_getElem?_getD, List.getElem?_map, h]
 rfl
theorem SB.made {w1 w2 : World} {v : Value} {g : Nat} {vg : Value} {z : Zs} {B : Nat} (hz : z.next = []) (hg : B ≤ g) (hb : w1.heap[g]? = some (.cells (zCells z vg (.slice none 0 0)) 47 (0, 0))) (hr : Kd.R (Kd.int .u8) 5 w1 B (fun _ => True) vg z.cs) (hb2 : Below w1.heap.size w1 w2) (hv : Kd.R ptK 42 w2 B (fun _ => True) v [g]) : SB w2 B v [⟨g, vg, .slice none 0 0, z⟩] where
 row := hv
 ok := fun m hm => by
  rw [List.mem_singleton.1 hm]
  exact okZ.below ⟨hg, hb, hr, by rw [hz]; exact Kd.R_nil _ _ _ _ _⟩ hb2
 nodup := by simp
 apart := List.pairwise_singleton _ _
theorem SB.more {w10 w1 : World} {B n : Nat} {v v1 vg : Value} {M : List Zm} {z : Zs} (h : SB w10 B v M) (hB : B ≤ w10.heap.size) (hz : z.next = []) (hgr : Kd.R (Kd.int .u8) 5 w10 B (fun _ => True) vg z.cs) (hg : ((w10.drewN n).alloc (.cells (zCells z vg (.slice none 0 0)) 47)).grownBy w1 v.ownBlock)
  (hr : Kd.R ptK 42 w1 B (fun _ => True) v1 (M.map Zm.g ++ [w10.heap.size])) : SB w1 B v1 (M ++ [⟨w10.heap.size, vg, .slice none 0 0, z⟩]) := by
 have hb : Below w10.heap.size w10 ((w10.drewN n).alloc (.cells (zCells z vg (.slice none 0 0)) 47)) := below_alloc (pw_below_drewN (Below.refl _ w10) n) _
 refine (h.below hb).add ⟨hB, World.alloc_heap_new (w10.drewN n) _, Kd.R_below hgr hb, by rw [hz]; exact Kd.R_nil _ _ _ _ _⟩ (fun x hx => ?_) rfl hg (by rw [List.map_append]; exact hr)
 have := blk_lt (h.ok x hx).blk
 show x.g ≠ w10.heap.size
 omega
theorem alloc_then {w w1 : World} {o : Obj} (hb : Below (w.alloc o).heap.size (w.alloc o) w1) : Below w.heap.size w w1 ∧ w1.heap[w.heap.size]? = some o := by
 have h0 := below_alloc (Below.refl _ w) o
 have h1 := World.alloc_heap_new w o
 exact ⟨below_then h0 h0.size hb, (hb.block _ (blk_lt h1)).trans h1⟩
theorem SB.drewn {w : World} {B : Nat} {v : Value} {M : List Zm} (h : SB w B v M) (n : Nat) : SB (w.drewN n) B v M := h.below (pw_below_drewN (Below.refl _ _) n)
theorem SB.word {w : World} {B : Nat} {v : Value} {M : List Zm} (h : SB w B v M) {j : Nat} {m : Zm} (hm : M[j]? = some m) (x : Int) : SB (w.setCell ⟨m.g, 5, none⟩ (.int .i64 x)) B v (M.set j { m with z := { m.z with words := x } }) :=
 h.put hm 5 _ rfl rfl ⟨(h.at hm).base, blk_put (h.at hm).blk 5 _ rfl, Kd.R_set (h.at hm).grid (h.at hm).blk (by decide) 5 _, Kd.R_set (h.at hm).next (h.at hm).blk (by decide) 5 _⟩
theorem map_z_set (M : List Zm) (j : Nat) (m : Zm) : (M.set j m).map Zm.z = (M.map Zm.z).set j m.z := List.map_set ..
theorem touch_yes {M : List Zm} {i j : Nat} {m mj mi : Zm} (hj : M[j]? = some mj) (hi : M[i]? = some m) (he : mj.z.far = wrap64 (m.z.far + 1)) {M2 : List Zm} (h2 : M2 = M.set j { mj with z := { mj.z with words := wrap64 (mj.z.words + m.z.words) } }) (hi2 : M2[i]? = some mi) (v : Value) : zTouch (M.map Zm.z) i j = (M2.set i { mi with vn := v, z := { mi.z with next := mi.z.next ++ [(j : Int)] } }).map Zm.z := by
 unfold zTouch zWords zNext
 rw [zAt_map hj, zAt_map hi, if_pos he, map_z_set, ← map_z_set M j { mj with z := { mj.z with words := wrap64 (mj.z.words + m.z.words) } }, ← h2, zAt_map hi2]
theorem touch_no {M : List Zm} {i j : Nat} {m mj : Zm} (hj : M[j]? = some mj) (hi : M[i]? = some m) (he : ¬ mj.z.far = wrap64 (m.z.far + 1)) (v : Value) : zTouch (M.map Zm.z) i j = (M.set i { m with vn := v, z := { m.z with next := m.z.next ++ [(j : Int)] } }).map Zm.z := by
 unfold zTouch zWords zNext
 rw [zAt_map hj, zAt_map hi, if_neg he, map_z_set, zAt_map hi]
theorem zPlace_lt : ∀ (L : List Zs) (t : ByteArray) (k : Nat), 0 ≤ zPlace L t k → zPlace L t k < ((k + L.length : Nat) : Int)
 | [], t, k, h => by
  rw [zPlace] at h
  omega
 | z :: L, t, k, h => by
  rw [zPlace] at h ⊢
  rw [List.length_cons]
  by_cases e : z.text.toList = t.toList
  ·rw [if_pos e]
   omega
  ·rw [if_neg e] at h ⊢
   have := zPlace_lt L t (k + 1) h
   omega
theorem set_at {M : List Zm} {i j : Nat} {m mj mj' : Zm} (hi : M[i]? = some m) (hj : M[j]? = some mj) (hg : mj'.g = mj.g) (hn : mj'.z.next = mj.z.next) : ∃ mi, (M.set j mj')[i]? = some mi ∧ mi.g = m.g ∧ mi.z.next = m.z.next := by
 rw [List.getElem?_set]
 by_cases e : j = i
 ·subst e
  rw [if_pos rfl, if_pos (List.getElem?_eq_some_iff.1 hj).1]
  rw [hi] at hj
  cases hj
  exact ⟨mj', rfl, hg, hn⟩
 ·rw [if_neg e]
  exact ⟨m, hi, rfl, rfl⟩
set_option maxHeartbeats 16000000 in
set_option maxRecDepth 100000 in
theorem spec_reAll.calls (k : Nat) (a0 : ByteArray) (r1 : List Zs) (r2 : Bool) (w : World) (h : spec_reAll.f k a0 = some (r1, r2)) :
  Calls Tryz.prog 30 #[.string a0] w fun e w' => ∃ (A : Option Addr) (c : Nat), e = .returned (.tuple #[.slice A r1.length c, .bool r2]) ∧ r1.length ≤ c ∧ r1.length ≤ 300 ∧ StC w' A r1 ∧ Below w.heap.size w w' := by
 unfold spec_reAll.f at h
 obtain ⟨⟨gw, gh, gc, gok⟩, ht, h⟩ := Option.bind_eq_some_iff.1 h
 have HT := Aside0.mk ht
 clear ht
 cases gok with
 | false =>
  rw [if_neg Bool.false_ne_true] at h
  simp only [Option.some.injEq, Prod.mk.injEq] at h
  obtain ⟨rfl, rfl⟩ := h
  go_enter Tryz.func30, Tryz.ntmps30
  go_wp2_with (first
   | (go_at_call 46; refine (spec_tyRead.calls k a0 gw gh gc false _ HT.out).mono ?_; rintro e w1 ⟨v1, rfl, ho1, hb1⟩; (have HB1 := Aside0.mk hb1); (obtain ⟨A1, c1, e1⟩ := Kd.R_slice ho1); subst e1; clear ho1 hb1)
   | ((with_reducible refine gate_dst (N := 4) rfl ?_); refine box_event ?hg (N := 4) ?hd (cs := #[.int .i64 0, .int .i64 0, .slice none 0 0]) (t := 45) ?hr ?_; (case hd => rfl); (case hg => rfl); (case hr => first | (go_simp; done) | (go_simp; rfl)); intro go hg w5 hbox hb; (have HB5 := Aside0.mk (below_then HB1.out HB1.out.size hb)); (have HGE := Aside0.mk (show w.heap.size ≤ go by rw [hg]; exact HB1.out.size)); (have f0 := blk_frozen hbox 0); (have f1 := blk_frozen hbox 1); (have f2 := blk_frozen hbox 2); (have y0 := (blk_cell hbox 0).trans rfl); (have y1 := (blk_cell hbox 1).trans rfl); (have y2 := (blk_cell hbox 2).trans rfl); clear hbox hb hg))
  go_ret2
  exact ⟨none, 0, rfl, Nat.le_refl _, Nat.zero_le _, ⟨fun i z hz => by simp at hz⟩, below_set (below_set (below_set HB5.out HGE.out) HGE.out) HGE.out⟩
 | true =>
  rw [if_pos rfl] at h
  have HA0 := Aside0.mk h
  clear h
  go_enter Tryz.func30, Tryz.ntmps30
  go_wp2_with (first
   | (go_at_call 46; refine (spec_tyRead.calls k a0 gw gh gc true _ HT.out).mono ?_; rintro e w1 ⟨v1, rfl, ho1, hb1⟩; (have HB1 := Aside0.mk hb1); (obtain ⟨A1, c1, e1⟩ := Kd.R_slice ho1); subst e1; (have HO1 := Aside0.mk ho1); clear ho1 hb1)
   | ((with_reducible refine gate_dst (N := 4) rfl ?_); refine box_event ?hg (N := 4) ?hd (cs := #[.int .i64 0, .int .i64 0, .slice none 0 0]) (t := 45) ?hr ?_; (case hd => rfl); (case hg => rfl); (case hr => first | (go_simp; done) | (go_simp; rfl)); intro go hg w5 hbox hb; (have HB5 := Aside0.mk (below_then HB1.out HB1.out.size hb)); (have HGE := Aside0.mk (show w.heap.size ≤ go by rw [hg]; exact HB1.out.size)); (have HO5 := Aside0.mk (Kd.R_below HO1.out hb)); (have HU := Aside0.mk hbox); (have f0 := blk_frozen HU.out 0); (have f1 := blk_frozen HU.out 1); (have f2 := blk_frozen HU.out 2); (have y0 := (blk_cell HU.out 0).trans rfl); (have y1 := (blk_cell HU.out 1).trans rfl); (have y2 := (blk_cell HU.out 2).trans rfl); clear hbox hb hg HO1)
   | ((with_reducible refine gate_store (t := 45) (p := 4) rfl ?_); refine store_event (t := 45) (p := 4) (v := ?vo) (w1 := (((w5.setCell ⟨go, 0, none⟩ (.int .i64 gw)).setCell ⟨go, 1, none⟩ (.int .i64 gh)).setCell ⟨go, 2, none⟩ (.slice A1 gc.length c1))) ?hg ?ho ?hn ?hr ?_; (case ho => rfl); (case hg => rfl); (case hn => rfl); (case hr => first | (go_simp; done) | (go_simp; rfl)); intro w6 hw; (have HB6 := Aside0.mk (show Below w.heap.size w w6 by rw [hw]; exact below_set (below_set (below_set HB5.out HGE.out) HGE.out) HGE.out)); (have HU6 := Aside0.mk (show w6.heap[go]? = some (.cells #[.int .i64 gw, .int .i64 gh, .slice A1 gc.length c1] 45 (0, 0)) by rw [hw]; refine blk_put (cs := #[.int .i64 gw, .int .i64 gh, .slice none 0 0]) ?_ 2 _ rfl; refine blk_put (cs := #[.int .i64 gw, .int .i64 0, .slice none 0 0]) ?_ 1 _ rfl; refine blk_put (cs := #[.int .i64 0, .int .i64 0, .slice none 0 0]) ?_ 0 _ rfl; exact HU.out)); (have HO6 := Aside0.mk (show Kd.R (Kd.int .u8) 5 w6 w.heap.size (fun _ => True) (.slice A1 gc.length c1) gc by rw [hw]; exact R_all (Kd.R_far (p := ⟨go, 2, none⟩) (Kd.R_far (p := ⟨go, 1, none⟩) (Kd.R_far (p := ⟨go, 0, none⟩) (Kd.R_types HO5.out HU.out (by decide)) (fun _ hk => hk.2) (.int .i64 gw)) (fun _ hk => hk.2) (.int .i64 gh)) (fun _ hk => hk.2) (.slice A1 gc.length c1)))); clear hw HB5 HU HO5 y0 y1 y2 f0 f1 f2; (have y0 := (blk_cell HU6.out 0).trans rfl); (have y1 := (blk_cell HU6.out 1).trans rfl); (have y2 := (blk_cell HU6.out 2).trans rfl))
   | ((with_reducible refine gate_dst (N := 23) rfl ?_); refine box_event ?hg (N := 23) ?hd (cs := zCells ⟨gw, gh, gc, a0, 0, 1, -1, 0, []⟩ (.slice A1 gc.length c1) (.slice none 0 0)) (t := 47) ?hr ?_; (case hd => rfl); (case hg => rfl); (case hr => first | (go_simp; done) | (go_simp; rfl)); intro gs hg w7 hbox hb; (have HB7 := Aside0.mk (below_then HB6.out HB6.out.size hb)); (have HGS := Aside0.mk (show w.heap.size ≤ gs by rw [hg]; exact HB6.out.size)); (have HO7 := Aside0.mk (Kd.R_below HO6.out hb)); (have HS7 := Aside0.mk hbox); clear hbox hb hg HO6 HU6 HB6 y0 y1 y2)
   | ((with_reducible refine gate_dst (N := 24) rfl ?_); refine R_litG ptK w.heap.size 42 ?hg (N := 24) ?hd (xs := [gs]) (inner := [.pointer (some ⟨gs, 0, none⟩)]) (ok := fun _ => True) (okp := fun _ => True) ?hr ?hp (fun _ hk => hk) trivial HB7.out HB7.out.size (by simp) ?_; (case hd => rfl); (case hg => first | rfl | decide | (simp [Region.wanted, yielded]; done) | (go_simp; done)); (case hr => first | (go_simp; done) | (go_simp; rfl)); (case hp => exact (Reps.one (show Kd.M ptK _ _ _ gs [.pointer (some ⟨gs, 0, none⟩)] from rfl) (Reps.none _ _))); intro v8 w8 ho8 hb8 hg8 hn8))
  have HS8 := Aside0.mk (SB.made (z := ⟨gw, gh, gc, a0, 0, 1, -1, 0, []⟩) rfl HGS.out HS7.out HO7.out (below_none hg8) (R_all ho8))
  have HB8 := Aside0.mk hb8
  clear ho8 hb8 hg8 hn8 HS7 HO7 HB7
  go_loopg [6, 7] 301 (fun gg v6 v7 wr => ∃ (i : Nat) (vv : Value) (M : List Zm), v6 = vv ∧ v7 = .int .i64 i ∧ Aside0 ((i ≤ M.length ∧ M.length ≤ 300 ∧ 301 - i ≤ gg) ∧ reA k (301 - i) i (M.map Zm.z) = some (r1, r2)) ∧ Aside0 (SB wr w.heap.size vv M) ∧ Aside0 (Below w.heap.size w wr))
  case atStart => exact ⟨0, v8, [⟨gs, .slice A1 gc.length c1, .slice none 0 0, ⟨gw, gh, gc, a0, 0, 1, -1, 0, []⟩⟩], rfl, by first | rfl | (simp; done), ⟨⟨Nat.zero_le _, by simp, Nat.le_refl _⟩, HA0.out⟩, HS8, HB8⟩
  case round =>
   clear HS8 HB8 HA0
   obtain ⟨i, vv, M, rfl, rfl, HA, HS, HB⟩ := hrel
   obtain ⟨AL, cL, eL, hcL, hstL, hptL⟩ := HS.out.read
   by_cases hli : i < M.length
   ·have c2 : decide ((i : Int) < (M.length : Int)) = true := decide_eq_true (by omega)
    have p1 : (0 ≤ (i : Int)) = True := eq_true (by omega)
    have p2 : ((i : Int) < (M.length : Int)) = True := eq_true (by omega)
    have hsp := HA.out.2
    rw [show 301 - i = (300 - i) + 1 by have := HA.out.1; omega, reA, if_pos (by rw [List.length_map]; exact hli)] at hsp
    obtain ⟨m, hm⟩ : ∃ m, M[i]? = some m := ⟨_, List.getElem?_eq_getElem hli⟩
    obtain ⟨ad, e1, h2⟩ := hptL i m hm
    cases e1
    have HSP := Aside0.mk hsp
    have HGK := Aside0.mk (show i < M.length ∧ M.length ≤ 300 ∧ 301 - i ≤ gk from ⟨hli, HA.out.1.2.1, HA.out.1.2.2⟩)
    subst eL
    clear hsp HA hli hstL hptL
    have HGM := Aside0.mk (show ∃ x, M[i]? = some x ∧ x.g = m.g from ⟨m, hm, rfl⟩)
    generalize m.g = gi at h2 HGM
    clear hm
    go_wp2_with fail
    go_loopg [6, 9] 4 (fun gg v6 v9 wr => ∃ (d : Nat) (vv : Value) (M : List Zm), v6 = vv ∧ v9 = .int .i64 d ∧ Aside0 (((d ≤ 4 ∧ 4 - d ≤ gg) ∧ (i < M.length ∧ M.length ≤ 300) ∧ ∃ x, M[i]? = some x ∧ x.g = gi) ∧ reS k (fun L => reA k (300 - i) (i + 1) L) i (4 - d) d (M.map Zm.z) = some (r1, r2)) ∧ Aside0 (SB wr w.heap.size vv M) ∧ Aside0 (Below w.heap.size w wr))
    case atStart => exact ⟨0, _, M, rfl, by first | rfl | (simp; done), ⟨⟨⟨Nat.zero_le _, Nat.le_refl _⟩, ⟨HGK.out.1, HGK.out.2.1⟩, HGM.out⟩, HSP.out⟩, HS, HB⟩
    case round =>
     clear HS HB HSP HGM h2 c2 p1 p2
     obtain ⟨d, vv, M, rfl, rfl, HA, HS, HB⟩ := hrel
     by_cases hd : d < 4
     ·have c3 : decide ((d : Int) < 4) = true := decide_eq_true (by omega)
      obtain ⟨⟨⟨_, hgk⟩, ⟨hil, hml⟩, m, hm, rfl⟩, hsp⟩ := HA.out
      rw [show 4 - d = (3 - d) + 1 by omega, reS, zAt_map hm] at hsp
      split at hsp
      case isFalse => cases hsp
      rename_i hnl
      have HNL0 := Aside0.mk hnl
      clear hnl
      obtain ⟨⟨ow, oh, oc⟩, htl, hsp⟩ := Option.bind_eq_some_iff.1 hsp
      obtain ⟨tx, htx, hsp⟩ := Option.bind_eq_some_iff.1 hsp
      have HTL := Aside0.mk htl
      have HTX := Aside0.mk htx
      have HSP := Aside0.mk hsp
      have HM := Aside0.mk hm
      have HGK2 := Aside0.mk (show (4 - d ≤ gk ∧ d < 4) ∧ i < M.length ∧ M.length ≤ 300 from ⟨⟨hgk, hd⟩, hil, hml⟩)
      obtain ⟨Ag, cg, eg, hcg, hCg⟩ := Kd.R_reads (HS.out.at hm).grid
      have HCG := Aside0.mk (show oc.length ≤ oc.length ∧ m.z.cs.length ≤ cg ∧ Kd.C (Kd.int .u8) wr Ag m.z.cs.length m.z.cs from ⟨Nat.le_refl _, hcg, hCg⟩)
      have y0 : wr.cell? ⟨m.g, 0, none⟩ = some (.int .i64 m.z.w) := (blk_cell (HS.out.at hm).blk 0).trans rfl
      have y1 : wr.cell? ⟨m.g, 1, none⟩ = some (.int .i64 m.z.h) := (blk_cell (HS.out.at hm).blk 1).trans rfl
      have y2 : wr.cell? ⟨m.g, 2, none⟩ = some (.slice Ag m.z.cs.length cg) := by rw [← eg]; exact (blk_cell (HS.out.at hm).blk 2).trans rfl
      clear htl htx hsp hm HA hgk hil hml hcg hCg eg hd
      by_cases hneg : zPlace (M.map Zm.z) tx 0 < 0
      ·have c4 : decide (zPlace (M.map Zm.z) tx 0 < 0) = true := decide_eq_true hneg
       have hsp := HSP.out
       rw [if_pos hneg, List.length_map] at hsp
       by_cases h300 : M.length = 300
       ·have c5 : ((M.length : Int) == 300) = true := beq_iff_eq.mpr (by omega)
        rw [if_pos h300] at hsp
        simp only [Option.some.injEq, Prod.mk.injEq] at hsp
        obtain ⟨rfl, rfl⟩ := hsp
        clear hneg h300 HSP
        go_wp2_with (first
         | (go_at_call 47; refine (spec_tiTilt.calls k m.z.w m.z.h Ag cg m.z.cs d ow oh oc _ HCG.out.2.2 HCG.out.2.1 HTL.out).mono ?_; rintro e w9 ⟨v9, rfl, ho9, hb9⟩; (have HS9 := Aside0.mk (HS.out.below hb9)); (have HB9 := Aside0.mk (below_then HB.out HB.out.size hb9)); (obtain ⟨A9, c9, e9⟩ := Kd.R_slice ho9); subst e9; (have HO9 := Aside0.mk (Kd.R_lower ho9 HB.out.size)); clear ho9 hb9 HS HB HCG y0 y1 y2)
         | (go_at_call 48; refine (spec_tyText.calls k ow oh A9 c9 oc tx _ (Kd.C_below (Kd.R_reads' HO9.out).2.2 (below_alloc (Below.refl _ _) _)) (Kd.R_reads' HO9.out).2.1 HTX.out).mono ?_; rintro e w10 ⟨rfl, hb10⟩; (obtain ⟨hb10, hk10⟩ := alloc_then hb10); (have HU10 := Aside0.mk hk10); (have HGB := Aside0.mk HB9.out.size); clear hk10; (have HS10 := Aside0.mk (HS9.out.below hb10)); (have HB10 := Aside0.mk (below_then HB9.out HB9.out.size hb10)); (have HO10 := Aside0.mk (Kd.R_below HO9.out hb10)); clear hb10 HS9 HB9 HO9; (generalize w9.heap.size = gt at HU10 HGB ⊢); (obtain ⟨A10, c10, e10, hc10, hst10, _⟩ := HS10.out.read); subst e10; (have HST := Aside0.mk hst10); (have HCC := Aside0.mk hc10); clear hst10 hc10)
         | (go_at_call 49; refine (spec_rePlace.calls A10 M.length c10 (M.map Zm.z) tx _ (by rw [List.length_map]) HST.out (by rw [List.length_map]; have := HGK2.out; omega) HCC.out).mono ?_; rintro e w11 ⟨rfl, ⟨m11, rfl⟩⟩))
        go_ret2
        exact ⟨none, 0, rfl, Nat.le_refl _, Nat.zero_le _, ⟨fun i z hz => by simp at hz⟩, pw_below_drewN HB10.out m11⟩
       ·have c5 : ((M.length : Int) == 300) = false := beq_eq_false_iff_ne.mpr (by omega)
        rw [if_neg h300] at hsp
        have HL3 := Aside0.mk h300
        have HNX := Aside0.mk hsp
        clear hneg h300 HSP hsp
        go_wp2_with (first
         | (go_at_call 47; refine (spec_tiTilt.calls k m.z.w m.z.h Ag cg m.z.cs d ow oh oc _ HCG.out.2.2 HCG.out.2.1 HTL.out).mono ?_; rintro e w9 ⟨v9, rfl, ho9, hb9⟩; (have HS9 := Aside0.mk (HS.out.below hb9)); (have HB9 := Aside0.mk (below_then HB.out HB.out.size hb9)); (obtain ⟨A9, c9, e9⟩ := Kd.R_slice ho9); subst e9; (have HO9 := Aside0.mk (Kd.R_lower ho9 HB.out.size)); clear ho9 hb9 HS HB HCG y0 y1 y2)
         | (go_at_call 48; refine (spec_tyText.calls k ow oh A9 c9 oc tx _ (Kd.C_below (Kd.R_reads' HO9.out).2.2 (below_alloc (Below.refl _ _) _)) (Kd.R_reads' HO9.out).2.1 HTX.out).mono ?_; rintro e w10 ⟨rfl, hb10⟩; (obtain ⟨hb10, hk10⟩ := alloc_then hb10); (have HU10 := Aside0.mk hk10); (have HGB := Aside0.mk HB9.out.size); clear hk10; (have HS10 := Aside0.mk (HS9.out.below hb10)); (have HB10 := Aside0.mk (below_then HB9.out HB9.out.size hb10)); (have HO10 := Aside0.mk (Kd.R_below HO9.out hb10)); clear hb10 HS9 HB9 HO9; (generalize w9.heap.size = gt at HU10 HGB ⊢); (obtain ⟨A10, c10, e10, hc10, hst10, _⟩ := HS10.out.read); subst e10; (have HST := Aside0.mk hst10); (have HCC := Aside0.mk hc10); clear hst10 hc10)
         | (go_at_call 49; refine (spec_rePlace.calls A10 M.length c10 (M.map Zm.z) tx _ (by rw [List.length_map]) HST.out (by rw [List.length_map]; have := HGK2.out; omega) HCC.out).mono ?_; rintro e w11 ⟨rfl, ⟨m11, rfl⟩⟩))
        obtain ⟨Agx, cgx, egx, hcgx, hCgx⟩ := Kd.R_reads (HS10.out.at HM.out).grid
        have z0 := (blk_cell HU10.out 0).trans rfl
        have z1 := (blk_cell HU10.out 1).trans rfl
        have z2 := (blk_cell HU10.out 2).trans rfl
        have x4 : w10.cell? ⟨m.g, 4, none⟩ = some (.int .i64 m.z.far) := (blk_cell (HS10.out.at HM.out).blk 4).trans rfl
        clear hcgx hCgx egx
        go_region_law (apply Kd.R_append_step (d := ptK) (w0 := w) (base := w.heap.size) (s := .tmp 57) (x := .tmp 69) (t := 39) (e := 42) (z := .pointer none) (bytes := 8) (v := .slice A10 M.length c10) (xs := M.map Zm.g) (p := w10.heap.size) (cs := [.pointer (some ⟨w10.heap.size, 0, none⟩)]) (ok := fun _ => True) (okp := fun _ => False); (case hw => rfl); (case ho => rfl); (case ht => exact Tryz.underlying39); (case hinfo => kernel_rfl); (case hz => rfl); (case hs0 => decide); (case hb0 => decide); (case hs => rfl); (case hx => exact (congrArg (fun q => Value.slice (some ⟨q, 0, none⟩) 1 1) (World.size_alloc (w10.drewN _) _).symm)); (case hp => rfl); (case hokp => exact fun _ hk => hk.elim); (case hfresh => exact fun _ _ => trivial); (case HO => exact Kd.R_below HS10.out.row (below_alloc (pw_below_drewN (Below.refl _ w10) _) _)); (case HB => exact below_alloc (pw_below_drewN HB10.out _) _); (case hbase => exact (below_alloc (pw_below_drewN HB10.out _) _).size); (case hl => rw [List.length_map]; have := HGK2.out; omega); intro v12 w12 hr12 hb12 hg12 _)
        all_goals
         rw [i64_w] at hg12
         have HS12 := Aside0.mk (SB.more (z := zNew (ow, oh, oc) tx m.z.far i d) HS10.out HB10.out.size rfl HO10.out hg12 hr12)
         have HB12 := Aside0.mk hb12
         clear hr12 hb12 hg12 z0 z1 z2 x4 HU10 HO10 HS10 HB10 HST HCC
         have hmi : (M ++ [(⟨w10.heap.size, .slice A9 oc.length c9, .slice none 0 0, zNew (ow, oh, oc) tx m.z.far i d⟩ : Zm)])[i]? = some m := by rw [List.getElem?_append_left HGK2.out.2.1]; exact HM.out
         have hmj : (M ++ [(⟨w10.heap.size, .slice A9 oc.length c9, .slice none 0 0, zNew (ow, oh, oc) tx m.z.far i d⟩ : Zm)])[M.length]? = some ⟨w10.heap.size, .slice A9 oc.length c9, .slice none 0 0, zNew (ow, oh, oc) tx m.z.far i d⟩ := by simp
         have HMI := Aside0.mk hmi
         have HMJ := Aside0.mk hmj
         have HLT := Aside0.mk (show i < (M ++ [(⟨w10.heap.size, .slice A9 oc.length c9, .slice none 0 0, zNew (ow, oh, oc) tx m.z.far i d⟩ : Zm)]).length ∧ (M ++ [(⟨w10.heap.size, .slice A9 oc.length c9, .slice none 0 0, zNew (ow, oh, oc) tx m.z.far i d⟩ : Zm)]).length ≤ 300 by rw [List.length_append, List.length_singleton]; have := HGK2.out; have := HL3.out; omega)
         have HNY := Aside0.mk (show reS k (fun L => reA k (300 - i) (i + 1) L) i (3 - d) (d + 1) (zTouch ((M ++ [(⟨w10.heap.size, .slice A9 oc.length c9, .slice none 0 0, zNew (ow, oh, oc) tx m.z.far i d⟩ : Zm)]).map Zm.z) i M.length) = some (r1, r2) by rw [List.map_append]; exact HNX.out)
         clear hmi hmj HNX
         generalize (M ++ [(⟨w10.heap.size, .slice A9 oc.length c9, .slice none 0 0, zNew (ow, oh, oc) tx m.z.far i d⟩ : Zm)]) = Mt at HS12 HMI HMJ HLT HNY
         generalize (⟨w10.heap.size, .slice A9 oc.length c9, .slice none 0 0, zNew (ow, oh, oc) tx m.z.far i d⟩ : Zm) = mj at HMJ
         have HJ := Aside0.mk (show M.length ≤ 300 ∧ M.length < Mt.length from ⟨HGK2.out.2.2, (List.getElem?_eq_some_iff.1 HMJ.out).1⟩)
         generalize M.length = j at HMJ HNY HJ ⊢
         obtain ⟨A12, c12, e12, hc12, _, hp12⟩ := HS12.out.read
         have HSL := Aside0.mk (show v12 = .slice A12 Mt.length c12 from e12)
         subst e12
         obtain ⟨ad12, e12, x6⟩ := hp12 j mj HMJ.out
         cases e12
         have q1 : (0 ≤ (j : Int)) = True := eq_true (by omega)
         have q2 : ((j : Int) < (Mt.length : Int)) = True := eq_true (by have := HJ.out; omega)
         have x7 : w12.cell? ⟨mj.g, 4, none⟩ = some (.int .i64 mj.z.far) := (blk_cell (HS12.out.at HMJ.out).blk 4).trans rfl
         have x8 : w12.cell? ⟨m.g, 4, none⟩ = some (.int .i64 m.z.far) := (blk_cell (HS12.out.at HMI.out).blk 4).trans rfl
         have x9 : w12.cell? ⟨mj.g, 5, none⟩ = some (.int .i64 mj.z.words) := (blk_cell (HS12.out.at HMJ.out).blk 5).trans rfl
         have x10 : w12.cell? ⟨m.g, 5, none⟩ = some (.int .i64 m.z.words) := (blk_cell (HS12.out.at HMI.out).blk 5).trans rfl
         have x11 : w12.frozen? ⟨mj.g, 5, none⟩ = false := blk_frozen (HS12.out.at HMJ.out).blk 5
         clear hp12 hc12 HSL
         by_cases hfar : mj.z.far = wrap64 (m.z.far + 1)
         ·have c6 : (mj.z.far == wrap64 (m.z.far + 1)) = true := beq_iff_eq.mpr hfar
          have c7 : (mj.z.far == IntKind.i64.wrap (m.z.far + 1)) = true := by rw [i64_w]; exact c6
          have HFAR := Aside0.mk hfar
          clear hfar
          go_wp2_with fail
          go_quiet (fail)
          go_wp2_with fail
          go_region
          have HS13 := Aside0.mk ((HS12.out.drewn (nq + 1)).word HMJ.out (wrap64 (mj.z.words + m.z.words)))
          have HB13 := Aside0.mk (show Below w.heap.size w ((w12.drewN (nq + 1)).setCell ⟨mj.g, 5, none⟩ (.int .i64 (wrap64 (mj.z.words + m.z.words)))) from below_set (pw_below_drewN HB12.out (nq + 1)) (HS12.out.at HMJ.out).base)
          have HMG := Aside0.mk (show w.heap.size ≤ m.g from (HS12.out.at HMI.out).base)
          obtain ⟨mi, hmi2, hge, hxn⟩ := set_at (mj' := { mj with z := { mj.z with words := wrap64 (mj.z.words + m.z.words) } }) HMI.out HMJ.out rfl rfl
          have HXN := Aside0.mk hxn
          have HNZ := Aside0.mk (show ∀ v, reS k (fun L => reA k (300 - i) (i + 1) L) i (3 - d) (d + 1) (((Mt.set j { mj with z := { mj.z with words := wrap64 (mj.z.words + m.z.words) } }).set i { mi with vn := v, z := { mi.z with next := mi.z.next ++ [(j : Int)] } }).map Zm.z) = some (r1, r2) from fun v => by rw [← touch_yes HMJ.out HMI.out HFAR.out rfl hmi2 v]; exact HNY.out)
          have HLT2 := Aside0.mk (show i < (Mt.set j { mj with z := { mj.z with words := wrap64 (mj.z.words + m.z.words) } }).length ∧ (Mt.set j { mj with z := { mj.z with words := wrap64 (mj.z.words + m.z.words) } }).length ≤ 300 by rw [List.length_set]; exact HLT.out)
          have HMI2 := Aside0.mk hmi2
          have HGE := Aside0.mk hge
          clear hmi2 hge hxn HNY HS12 HB12 x6 x7 x8 x9 x10 x11 HFAR
          generalize (w12.drewN (nq + 1)).setCell ⟨mj.g, 5, none⟩ (.int .i64 (wrap64 (mj.z.words + m.z.words))) = w13 at HS13 HB13 ⊢
          generalize (Mt.set j { mj with z := { mj.z with words := wrap64 (mj.z.words + m.z.words) } }) = M2 at HS13 HMI2 HNZ HLT2
          have HK := Aside0.mk (HS13.out.at HMI2.out)
          obtain ⟨An, cn, en, hcn, _⟩ := Kd.R_reads HK.out.next
          have HR13 := Aside0.mk (show Kd.R (Kd.int .i64) 3 w13 w.heap.size (fun _ => True) (.slice An mi.z.next.length cn) mi.z.next by rw [← en]; exact HK.out.next)
          have HEN := Aside0.mk en
          have HBK := Aside0.mk (show w13.heap[m.g]? = some (.cells (zCells mi.z mi.vg (.slice An mi.z.next.length cn)) 47 (0, 0)) by rw [← en, ← HGE.out]; exact HK.out.blk)
          have HNL := Aside0.mk (show mi.z.next.length ≤ 1000 by rw [HXN.out]; exact HNL0.out)
          clear hcn en HK
          have x12 : w13.cell? ⟨m.g, 8, none⟩ = some (.slice An mi.z.next.length cn) := (blk_cell HBK.out 8).trans rfl
          go_wp2_with (first
           | ((with_reducible refine gate_dst (N := 105) rfl ?_); refine Kd.R_append (Kd.int .i64) (w0 := w) w.heap.size rfl (.tmp 102) (.tmp 104) 22 3 (.int .i64 0) 8 rfl Tryz.underlying22 info3 rfl (by decide) (by omega) (.slice An mi.z.next.length cn) mi.z.next (j : Int) [.int .i64 (j : Int)] (fun _ => True) (fun _ => False) ?h1 ?h2 ?aP (fun _ hk => hk.elim) ?aF ?aO ?aB ?aS ?aL ?_; (case h1 => rfl); (case h2 => rfl); (case aP => exact rfl); (case aB => exact HB13.out); (case aF => exact (fun _ _ => trivial)); (case aO => exact HR13.out); (case aS => exact HB13.out.size); (case aL => have := HNL.out; omega); intro v14 w14 ho14 hb14 hg14 hat14; (obtain ⟨A14, c14, e14⟩ := Kd.R_slice ho14); (generalize hlen14 : (mi.z.next ++ [(j : Int)]).length = n14 at e14); subst e14; (have HB14 := Aside0.mk hb14); (have HBK14 := Aside0.mk (blk_grown HBK.out hg14 (Kd.R_ne HR13.out HBK.out (by decide)))); (have HS15 := Aside0.mk (HS13.out.grow HMI2.out (v1 := .slice A14 n14 c14) (ys := mi.z.next ++ [(j : Int)]) (by rw [HEN.out]; exact hg14) (by rw [HEN.out]; exact hat14) ho14)); clear ho14 hb14 hg14 hat14 x12 hlen14; (have x13 : w14.cell? ⟨m.g, 8, none⟩ = some (.slice An mi.z.next.length cn) := (blk_cell HBK14.out 8).trans rfl); (have f13 := blk_frozen HBK14.out 8)))
          have HS16 := Aside0.mk (show SB (w14.setCell ⟨m.g, 8, none⟩ (.slice A14 n14 c14)) w.heap.size (.slice (some ad12) Mt.length c12) (M2.set i { mi with vn := .slice A14 n14 c14, z := { mi.z with next := mi.z.next ++ [(j : Int)] } }) by rw [← HGE.out]; exact HS15.out)
          have HB15 := Aside0.mk (show Below w.heap.size w (w14.setCell ⟨m.g, 8, none⟩ (.slice A14 n14 c14)) from below_set HB14.out (HMG.out))
          go_roundg (4 - (d + 1))
          case measure => have := HGK2.out; omega
          case rel => exact ⟨d + 1, _, M2.set i { mi with vn := .slice A14 n14 c14, z := { mi.z with next := mi.z.next ++ [(j : Int)] } }, rfl, by first | rfl | rw [wrap64_nat d (by have := HGK2.out; omega)] | simp, ⟨⟨⟨by have := HGK2.out; omega, Nat.le_refl _⟩, by rw [List.length_set]; exact HLT2.out, { mi with vn := .slice A14 n14 c14, z := { mi.z with next := mi.z.next ++ [(j : Int)] } }, by rw [List.getElem?_set, if_pos rfl, if_pos HLT2.out.1], HGE.out⟩, by rw [show 4 - (d + 1) = 3 - d by omega]; exact HNZ.out _⟩, HS16, HB15⟩
         ·have c6 : (mj.z.far == wrap64 (m.z.far + 1)) = false := beq_eq_false_iff_ne.mpr hfar
          have c7 : (mj.z.far == IntKind.i64.wrap (m.z.far + 1)) = false := by rw [i64_w]; exact c6
          have HNZ := Aside0.mk (show ∀ v, reS k (fun L => reA k (300 - i) (i + 1) L) i (3 - d) (d + 1) ((Mt.set i { m with vn := v, z := { m.z with next := m.z.next ++ [(j : Int)] } }).map Zm.z) = some (r1, r2) from fun v => by rw [← touch_no HMJ.out HMI.out hfar v]; exact HNY.out)
          have HMG := Aside0.mk (show w.heap.size ≤ m.g from (HS12.out.at HMI.out).base)
          clear hfar HNY
          go_wp2_with fail
          go_quiet (fail)
          have HB13 := Aside0.mk (pw_below_drewN HB12.out nq)
          obtain ⟨mi, hmi⟩ : ∃ mi, mi = m := ⟨m, rfl⟩
          have HGE := Aside0.mk (show mi.g = m.g by rw [hmi])
          have HXN := Aside0.mk (show mi.z.next = m.z.next by rw [hmi])
          obtain ⟨M2, hM2⟩ : ∃ M2, M2 = Mt := ⟨Mt, rfl⟩
          have HMI2 := Aside0.mk (show M2[i]? = some mi by rw [hM2, hmi]; exact HMI.out)
          have HS13 := Aside0.mk (show SB (w12.drewN nq) w.heap.size (.slice (some ad12) Mt.length c12) M2 by rw [hM2]; exact HS12.out.drewn nq)
          have HLT2 := Aside0.mk (show i < M2.length ∧ M2.length ≤ 300 by rw [hM2]; exact HLT.out)
          rw [← hmi, ← hM2] at HNZ
          clear HS12 HB12 x6 x7 x8 x9 x10 x11 hmi hM2
          generalize w12.drewN nq = w13 at HS13 HB13 ⊢
          have HK := Aside0.mk (HS13.out.at HMI2.out)
          obtain ⟨An, cn, en, hcn, _⟩ := Kd.R_reads HK.out.next
          have HR13 := Aside0.mk (show Kd.R (Kd.int .i64) 3 w13 w.heap.size (fun _ => True) (.slice An mi.z.next.length cn) mi.z.next by rw [← en]; exact HK.out.next)
          have HEN := Aside0.mk en
          have HBK := Aside0.mk (show w13.heap[m.g]? = some (.cells (zCells mi.z mi.vg (.slice An mi.z.next.length cn)) 47 (0, 0)) by rw [← en, ← HGE.out]; exact HK.out.blk)
          have HNL := Aside0.mk (show mi.z.next.length ≤ 1000 by rw [HXN.out]; exact HNL0.out)
          clear hcn en HK
          have x12 : w13.cell? ⟨m.g, 8, none⟩ = some (.slice An mi.z.next.length cn) := (blk_cell HBK.out 8).trans rfl
          go_wp2_with (first
           | ((with_reducible refine gate_dst (N := 105) rfl ?_); refine Kd.R_append (Kd.int .i64) (w0 := w) w.heap.size rfl (.tmp 102) (.tmp 104) 22 3 (.int .i64 0) 8 rfl Tryz.underlying22 info3 rfl (by decide) (by omega) (.slice An mi.z.next.length cn) mi.z.next (j : Int) [.int .i64 (j : Int)] (fun _ => True) (fun _ => False) ?h1 ?h2 ?aP (fun _ hk => hk.elim) ?aF ?aO ?aB ?aS ?aL ?_; (case h1 => rfl); (case h2 => rfl); (case aP => exact rfl); (case aB => exact HB13.out); (case aF => exact (fun _ _ => trivial)); (case aO => exact HR13.out); (case aS => exact HB13.out.size); (case aL => have := HNL.out; omega); intro v14 w14 ho14 hb14 hg14 hat14; (obtain ⟨A14, c14, e14⟩ := Kd.R_slice ho14); (generalize hlen14 : (mi.z.next ++ [(j : Int)]).length = n14 at e14); subst e14; (have HB14 := Aside0.mk hb14); (have HBK14 := Aside0.mk (blk_grown HBK.out hg14 (Kd.R_ne HR13.out HBK.out (by decide)))); (have HS15 := Aside0.mk (HS13.out.grow HMI2.out (v1 := .slice A14 n14 c14) (ys := mi.z.next ++ [(j : Int)]) (by rw [HEN.out]; exact hg14) (by rw [HEN.out]; exact hat14) ho14)); clear ho14 hb14 hg14 hat14 x12 hlen14; (have x13 : w14.cell? ⟨m.g, 8, none⟩ = some (.slice An mi.z.next.length cn) := (blk_cell HBK14.out 8).trans rfl); (have f13 := blk_frozen HBK14.out 8)))
          have HS16 := Aside0.mk (show SB (w14.setCell ⟨m.g, 8, none⟩ (.slice A14 n14 c14)) w.heap.size (.slice (some ad12) Mt.length c12) (M2.set i { mi with vn := .slice A14 n14 c14, z := { mi.z with next := mi.z.next ++ [(j : Int)] } }) by rw [← HGE.out]; exact HS15.out)
          have HB15 := Aside0.mk (show Below w.heap.size w (w14.setCell ⟨m.g, 8, none⟩ (.slice A14 n14 c14)) from below_set HB14.out (HMG.out))
          go_roundg (4 - (d + 1))
          case measure => have := HGK2.out; omega
          case rel => exact ⟨d + 1, _, M2.set i { mi with vn := .slice A14 n14 c14, z := { mi.z with next := mi.z.next ++ [(j : Int)] } }, rfl, by first | rfl | rw [wrap64_nat d (by have := HGK2.out; omega)] | simp, ⟨⟨⟨by have := HGK2.out; omega, Nat.le_refl _⟩, by rw [List.length_set]; exact HLT2.out, { mi with vn := .slice A14 n14 c14, z := { mi.z with next := mi.z.next ++ [(j : Int)] } }, by rw [List.getElem?_set, if_pos rfl, if_pos HLT2.out.1], HGE.out⟩, by rw [show 4 - (d + 1) = 3 - d by omega]; exact HNZ.out _⟩, HS16, HB15⟩
      ·have c4 : decide (zPlace (M.map Zm.z) tx 0 < 0) = false := decide_eq_false hneg
       obtain ⟨j, hj⟩ := Int.eq_ofNat_of_zero_le (Int.not_lt.1 hneg)
       have hsp := HSP.out
       rw [if_neg hneg, hj, Int.toNat_natCast] at hsp
       have hjl := zPlace_lt (M.map Zm.z) tx 0 (by omega)
       rw [List.length_map, hj] at hjl
       have HJ := Aside0.mk (show j ≤ 300 ∧ j < M.length by have := HGK2.out; omega)
       have HNY := Aside0.mk hsp
       have HZJ := Aside0.mk hj
       rw [hj] at c4
       clear hneg HSP hsp hj hjl
       go_wp2_with (first
        | (go_at_call 47; refine (spec_tiTilt.calls k m.z.w m.z.h Ag cg m.z.cs d ow oh oc _ HCG.out.2.2 HCG.out.2.1 HTL.out).mono ?_; rintro e w9 ⟨v9, rfl, ho9, hb9⟩; (have HS9 := Aside0.mk (HS.out.below hb9)); (have HB9 := Aside0.mk (below_then HB.out HB.out.size hb9)); (obtain ⟨A9, c9, e9⟩ := Kd.R_slice ho9); subst e9; (have HO9 := Aside0.mk (Kd.R_lower ho9 HB.out.size)); clear ho9 hb9 HS HB HCG y0 y1 y2)
        | (go_at_call 48; refine (spec_tyText.calls k ow oh A9 c9 oc tx _ (Kd.C_below (Kd.R_reads' HO9.out).2.2 (below_alloc (Below.refl _ _) _)) (Kd.R_reads' HO9.out).2.1 HTX.out).mono ?_; rintro e w10 ⟨rfl, hb10⟩; (obtain ⟨hb10, hk10⟩ := alloc_then hb10); (have HU10 := Aside0.mk hk10); (have HGB := Aside0.mk HB9.out.size); clear hk10; (have HS10 := Aside0.mk (HS9.out.below hb10)); (have HB10 := Aside0.mk (below_then HB9.out HB9.out.size hb10)); (have HO10 := Aside0.mk (Kd.R_below HO9.out hb10)); clear hb10 HS9 HB9 HO9; (generalize w9.heap.size = gt at HU10 HGB ⊢); (obtain ⟨A10, c10, e10, hc10, hst10, _⟩ := HS10.out.read); subst e10; (have HST := Aside0.mk hst10); (have HCC := Aside0.mk hc10); clear hst10 hc10)
        | (go_at_call 49; refine (spec_rePlace.calls A10 M.length c10 (M.map Zm.z) tx _ (by rw [List.length_map]) HST.out (by rw [List.length_map]; have := HGK2.out; omega) HCC.out).mono ?_; rintro e w11 ⟨rfl, ⟨m11, rfl⟩⟩; rw [HZJ.out]))
       obtain ⟨mj, hmj⟩ : ∃ mj, M[j]? = some mj := ⟨_, List.getElem?_eq_getElem HJ.out.2⟩
       have HMJ := Aside0.mk hmj
       have HMI := HM
       have HLT := Aside0.mk (show i < M.length ∧ M.length ≤ 300 from HGK2.out.2)
       have HS12 := Aside0.mk (HS10.out.drewn m11)
       have HB12 := Aside0.mk (pw_below_drewN HB10.out m11)
       clear hmj HS10 HB10 HST HCC HU10 HO10
       generalize w10.drewN m11 = w12 at HS12 HB12 ⊢
       generalize hv12 : Value.slice A10 M.length c10 = v12 at HS12 ⊢
       obtain ⟨Mt, hMt⟩ : ∃ Mt, Mt = M := ⟨M, rfl⟩
       rw [← hMt] at HMI HMJ HLT HNY HS12 HJ
       clear hMt
       obtain ⟨A12, c12, e12, hc12, _, hp12⟩ := HS12.out.read
       have HSL := Aside0.mk (show v12 = .slice A12 Mt.length c12 from e12)
       subst e12
       obtain ⟨ad12, e12, x6⟩ := hp12 j mj HMJ.out
       cases e12
       have q1 : (0 ≤ (j : Int)) = True := eq_true (by omega)
       have q2 : ((j : Int) < (Mt.length : Int)) = True := eq_true (by have := HJ.out; omega)
       have x7 : w12.cell? ⟨mj.g, 4, none⟩ = some (.int .i64 mj.z.far) := (blk_cell (HS12.out.at HMJ.out).blk 4).trans rfl
       have x8 : w12.cell? ⟨m.g, 4, none⟩ = some (.int .i64 m.z.far) := (blk_cell (HS12.out.at HMI.out).blk 4).trans rfl
       have x9 : w12.cell? ⟨mj.g, 5, none⟩ = some (.int .i64 mj.z.words) := (blk_cell (HS12.out.at HMJ.out).blk 5).trans rfl
       have x10 : w12.cell? ⟨m.g, 5, none⟩ = some (.int .i64 m.z.words) := (blk_cell (HS12.out.at HMI.out).blk 5).trans rfl
       have x11 : w12.frozen? ⟨mj.g, 5, none⟩ = false := blk_frozen (HS12.out.at HMJ.out).blk 5
       clear hp12 hc12 HSL
       by_cases hfar : mj.z.far = wrap64 (m.z.far + 1)
       ·have c6 : (mj.z.far == wrap64 (m.z.far + 1)) = true := beq_iff_eq.mpr hfar
        have c7 : (mj.z.far == IntKind.i64.wrap (m.z.far + 1)) = true := by rw [i64_w]; exact c6
        have HFAR := Aside0.mk hfar
        clear hfar
        go_wp2_with fail
        go_quiet (fail)
        go_wp2_with fail
        go_region
        have HS13 := Aside0.mk ((HS12.out.drewn (nq + 1)).word HMJ.out (wrap64 (mj.z.words + m.z.words)))
        have HB13 := Aside0.mk (show Below w.heap.size w ((w12.drewN (nq + 1)).setCell ⟨mj.g, 5, none⟩ (.int .i64 (wrap64 (mj.z.words + m.z.words)))) from below_set (pw_below_drewN HB12.out (nq + 1)) (HS12.out.at HMJ.out).base)
        have HMG := Aside0.mk (show w.heap.size ≤ m.g from (HS12.out.at HMI.out).base)
        obtain ⟨mi, hmi2, hge, hxn⟩ := set_at (mj' := { mj with z := { mj.z with words := wrap64 (mj.z.words + m.z.words) } }) HMI.out HMJ.out rfl rfl
        have HXN := Aside0.mk hxn
        have HNZ := Aside0.mk (show ∀ v, reS k (fun L => reA k (300 - i) (i + 1) L) i (3 - d) (d + 1) (((Mt.set j { mj with z := { mj.z with words := wrap64 (mj.z.words + m.z.words) } }).set i { mi with vn := v, z := { mi.z with next := mi.z.next ++ [(j : Int)] } }).map Zm.z) = some (r1, r2) from fun v => by rw [← touch_yes HMJ.out HMI.out HFAR.out rfl hmi2 v]; exact HNY.out)
        have HLT2 := Aside0.mk (show i < (Mt.set j { mj with z := { mj.z with words := wrap64 (mj.z.words + m.z.words) } }).length ∧ (Mt.set j { mj with z := { mj.z with words := wrap64 (mj.z.words + m.z.words) } }).length ≤ 300 by rw [List.length_set]; exact HLT.out)
        have HMI2 := Aside0.mk hmi2
        have HGE := Aside0.mk hge
        clear hmi2 hge hxn HNY HS12 HB12 x6 x7 x8 x9 x10 x11 HFAR
        generalize (w12.drewN (nq + 1)).setCell ⟨mj.g, 5, none⟩ (.int .i64 (wrap64 (mj.z.words + m.z.words))) = w13 at HS13 HB13 ⊢
        generalize (Mt.set j { mj with z := { mj.z with words := wrap64 (mj.z.words + m.z.words) } }) = M2 at HS13 HMI2 HNZ HLT2
        have HK := Aside0.mk (HS13.out.at HMI2.out)
        obtain ⟨An, cn, en, hcn, _⟩ := Kd.R_reads HK.out.next
        have HR13 := Aside0.mk (show Kd.R (Kd.int .i64) 3 w13 w.heap.size (fun _ => True) (.slice An mi.z.next.length cn) mi.z.next by rw [← en]; exact HK.out.next)
        have HEN := Aside0.mk en
        have HBK := Aside0.mk (show w13.heap[m.g]? = some (.cells (zCells mi.z mi.vg (.slice An mi.z.next.length cn)) 47 (0, 0)) by rw [← en, ← HGE.out]; exact HK.out.blk)
        have HNL := Aside0.mk (show mi.z.next.length ≤ 1000 by rw [HXN.out]; exact HNL0.out)
        clear hcn en HK
        have x12 : w13.cell? ⟨m.g, 8, none⟩ = some (.slice An mi.z.next.length cn) := (blk_cell HBK.out 8).trans rfl
        go_wp2_with (first
         | ((with_reducible refine gate_dst (N := 105) rfl ?_); refine Kd.R_append (Kd.int .i64) (w0 := w) w.heap.size rfl (.tmp 102) (.tmp 104) 22 3 (.int .i64 0) 8 rfl Tryz.underlying22 info3 rfl (by decide) (by omega) (.slice An mi.z.next.length cn) mi.z.next (j : Int) [.int .i64 (j : Int)] (fun _ => True) (fun _ => False) ?h1 ?h2 ?aP (fun _ hk => hk.elim) ?aF ?aO ?aB ?aS ?aL ?_; (case h1 => rfl); (case h2 => rfl); (case aP => exact rfl); (case aB => exact HB13.out); (case aF => exact (fun _ _ => trivial)); (case aO => exact HR13.out); (case aS => exact HB13.out.size); (case aL => have := HNL.out; omega); intro v14 w14 ho14 hb14 hg14 hat14; (obtain ⟨A14, c14, e14⟩ := Kd.R_slice ho14); (generalize hlen14 : (mi.z.next ++ [(j : Int)]).length = n14 at e14); subst e14; (have HB14 := Aside0.mk hb14); (have HBK14 := Aside0.mk (blk_grown HBK.out hg14 (Kd.R_ne HR13.out HBK.out (by decide)))); (have HS15 := Aside0.mk (HS13.out.grow HMI2.out (v1 := .slice A14 n14 c14) (ys := mi.z.next ++ [(j : Int)]) (by rw [HEN.out]; exact hg14) (by rw [HEN.out]; exact hat14) ho14)); clear ho14 hb14 hg14 hat14 x12 hlen14; (have x13 : w14.cell? ⟨m.g, 8, none⟩ = some (.slice An mi.z.next.length cn) := (blk_cell HBK14.out 8).trans rfl); (have f13 := blk_frozen HBK14.out 8)))
        have HS16 := Aside0.mk (show SB (w14.setCell ⟨m.g, 8, none⟩ (.slice A14 n14 c14)) w.heap.size (.slice (some ad12) Mt.length c12) (M2.set i { mi with vn := .slice A14 n14 c14, z := { mi.z with next := mi.z.next ++ [(j : Int)] } }) by rw [← HGE.out]; exact HS15.out)
        have HB15 := Aside0.mk (show Below w.heap.size w (w14.setCell ⟨m.g, 8, none⟩ (.slice A14 n14 c14)) from below_set HB14.out (HMG.out))
        go_roundg (4 - (d + 1))
        case measure => have := HGK2.out; omega
        case rel => exact ⟨d + 1, _, M2.set i { mi with vn := .slice A14 n14 c14, z := { mi.z with next := mi.z.next ++ [(j : Int)] } }, rfl, by first | rfl | rw [wrap64_nat d (by have := HGK2.out; omega)] | simp, ⟨⟨⟨by have := HGK2.out; omega, Nat.le_refl _⟩, by rw [List.length_set]; exact HLT2.out, { mi with vn := .slice A14 n14 c14, z := { mi.z with next := mi.z.next ++ [(j : Int)] } }, by rw [List.getElem?_set, if_pos rfl, if_pos HLT2.out.1], HGE.out⟩, by rw [show 4 - (d + 1) = 3 - d by omega]; exact HNZ.out _⟩, HS16, HB15⟩
       ·have c6 : (mj.z.far == wrap64 (m.z.far + 1)) = false := beq_eq_false_iff_ne.mpr hfar
        have c7 : (mj.z.far == IntKind.i64.wrap (m.z.far + 1)) = false := by rw [i64_w]; exact c6
        have HNZ := Aside0.mk (show ∀ v, reS k (fun L => reA k (300 - i) (i + 1) L) i (3 - d) (d + 1) ((Mt.set i { m with vn := v, z := { m.z with next := m.z.next ++ [(j : Int)] } }).map Zm.z) = some (r1, r2) from fun v => by rw [← touch_no HMJ.out HMI.out hfar v]; exact HNY.out)
        have HMG := Aside0.mk (show w.heap.size ≤ m.g from (HS12.out.at HMI.out).base)
        clear hfar HNY
        go_wp2_with fail
        go_quiet (fail)
        have HB13 := Aside0.mk (pw_below_drewN HB12.out nq)
        obtain ⟨mi, hmi⟩ : ∃ mi, mi = m := ⟨m, rfl⟩
        have HGE := Aside0.mk (show mi.g = m.g by rw [hmi])
        have HXN := Aside0.mk (show mi.z.next = m.z.next by rw [hmi])
        obtain ⟨M2, hM2⟩ : ∃ M2, M2 = Mt := ⟨Mt, rfl⟩
        have HMI2 := Aside0.mk (show M2[i]? = some mi by rw [hM2, hmi]; exact HMI.out)
        have HS13 := Aside0.mk (show SB (w12.drewN nq) w.heap.size (.slice (some ad12) Mt.length c12) M2 by rw [hM2]; exact HS12.out.drewn nq)
        have HLT2 := Aside0.mk (show i < M2.length ∧ M2.length ≤ 300 by rw [hM2]; exact HLT.out)
        rw [← hmi, ← hM2] at HNZ
        clear HS12 HB12 x6 x7 x8 x9 x10 x11 hmi hM2
        generalize w12.drewN nq = w13 at HS13 HB13 ⊢
        have HK := Aside0.mk (HS13.out.at HMI2.out)
        obtain ⟨An, cn, en, hcn, _⟩ := Kd.R_reads HK.out.next
        have HR13 := Aside0.mk (show Kd.R (Kd.int .i64) 3 w13 w.heap.size (fun _ => True) (.slice An mi.z.next.length cn) mi.z.next by rw [← en]; exact HK.out.next)
        have HEN := Aside0.mk en
        have HBK := Aside0.mk (show w13.heap[m.g]? = some (.cells (zCells mi.z mi.vg (.slice An mi.z.next.length cn)) 47 (0, 0)) by rw [← en, ← HGE.out]; exact HK.out.blk)
        have HNL := Aside0.mk (show mi.z.next.length ≤ 1000 by rw [HXN.out]; exact HNL0.out)
        clear hcn en HK
        have x12 : w13.cell? ⟨m.g, 8, none⟩ = some (.slice An mi.z.next.length cn) := (blk_cell HBK.out 8).trans rfl
        go_wp2_with (first
         | ((with_reducible refine gate_dst (N := 105) rfl ?_); refine Kd.R_append (Kd.int .i64) (w0 := w) w.heap.size rfl (.tmp 102) (.tmp 104) 22 3 (.int .i64 0) 8 rfl Tryz.underlying22 info3 rfl (by decide) (by omega) (.slice An mi.z.next.length cn) mi.z.next (j : Int) [.int .i64 (j : Int)] (fun _ => True) (fun _ => False) ?h1 ?h2 ?aP (fun _ hk => hk.elim) ?aF ?aO ?aB ?aS ?aL ?_; (case h1 => rfl); (case h2 => rfl); (case aP => exact rfl); (case aB => exact HB13.out); (case aF => exact (fun _ _ => trivial)); (case aO => exact HR13.out); (case aS => exact HB13.out.size); (case aL => have := HNL.out; omega); intro v14 w14 ho14 hb14 hg14 hat14; (obtain ⟨A14, c14, e14⟩ := Kd.R_slice ho14); (generalize hlen14 : (mi.z.next ++ [(j : Int)]).length = n14 at e14); subst e14; (have HB14 := Aside0.mk hb14); (have HBK14 := Aside0.mk (blk_grown HBK.out hg14 (Kd.R_ne HR13.out HBK.out (by decide)))); (have HS15 := Aside0.mk (HS13.out.grow HMI2.out (v1 := .slice A14 n14 c14) (ys := mi.z.next ++ [(j : Int)]) (by rw [HEN.out]; exact hg14) (by rw [HEN.out]; exact hat14) ho14)); clear ho14 hb14 hg14 hat14 x12 hlen14; (have x13 : w14.cell? ⟨m.g, 8, none⟩ = some (.slice An mi.z.next.length cn) := (blk_cell HBK14.out 8).trans rfl); (have f13 := blk_frozen HBK14.out 8)))
        have HS16 := Aside0.mk (show SB (w14.setCell ⟨m.g, 8, none⟩ (.slice A14 n14 c14)) w.heap.size (.slice (some ad12) Mt.length c12) (M2.set i { mi with vn := .slice A14 n14 c14, z := { mi.z with next := mi.z.next ++ [(j : Int)] } }) by rw [← HGE.out]; exact HS15.out)
        have HB15 := Aside0.mk (show Below w.heap.size w (w14.setCell ⟨m.g, 8, none⟩ (.slice A14 n14 c14)) from below_set HB14.out (HMG.out))
        go_roundg (4 - (d + 1))
        case measure => have := HGK2.out; omega
        case rel => exact ⟨d + 1, _, M2.set i { mi with vn := .slice A14 n14 c14, z := { mi.z with next := mi.z.next ++ [(j : Int)] } }, rfl, by first | rfl | rw [wrap64_nat d (by have := HGK2.out; omega)] | simp, ⟨⟨⟨by have := HGK2.out; omega, Nat.le_refl _⟩, by rw [List.length_set]; exact HLT2.out, { mi with vn := .slice A14 n14 c14, z := { mi.z with next := mi.z.next ++ [(j : Int)] } }, by rw [List.getElem?_set, if_pos rfl, if_pos HLT2.out.1], HGE.out⟩, by rw [show 4 - (d + 1) = 3 - d by omega]; exact HNZ.out _⟩, HS16, HB15⟩
     ·obtain rfl : d = 4 := by have := HA.out.1.1; omega
      have c3 : decide (((4 : Nat) : Int) < 4) = false := decide_eq_false (by omega)
      have hsp := HA.out.2
      rw [show 4 - 4 = 0 from rfl, reS] at hsp
      have HNX := Aside0.mk hsp
      have HGK3 := Aside0.mk (show i < M.length ∧ M.length ≤ 300 from HA.out.1.2.1)
      clear hsp HA hd
      go_wp2
      go_roundg (301 - (i + 1))
      case measure => have := HGK.out; omega
      case rel => exact ⟨i + 1, _, M, rfl, by first | rfl | rw [wrap64_nat i (by have := HGK3.out; omega)] | simp, ⟨⟨by have := HGK3.out; omega, HGK3.out.2, Nat.le_refl _⟩, by rw [show 301 - (i + 1) = 300 - i by omega]; exact HNX.out⟩, HS, HB⟩
   ·obtain rfl : i = M.length := by have := HA.out.1.1; omega
    have c2 : decide ((M.length : Int) < (M.length : Int)) = false := decide_eq_false (by omega)
    have hsp := HA.out.2
    rw [show 301 - M.length = (300 - M.length) + 1 by have := HA.out.1; omega, reA, if_neg (by rw [List.length_map]; exact hli)] at hsp
    simp only [Option.some.injEq, Prod.mk.injEq] at hsp
    obtain ⟨rfl, rfl⟩ := hsp
    have HST := Aside0.mk hstL
    have HCL := Aside0.mk hcL
    have HML := Aside0.mk (show M.length ≤ 300 from HA.out.1.2.1)
    subst eL
    clear HA hli hstL hptL hcL
    go_wp2
    go_ret2
    exact ⟨AL, cL, by rw [List.length_map]; rfl, by rw [List.length_map]; exact HCL.out, by rw [List.length_map]; exact HML.out, HST.out, HB.out⟩
end Go.Proofs.YtchkmhbngbgjnaaGreatDoor.Q
end
section
namespace Go.Proofs.YtchkmhbngbgjnaaGreatDoor.Q
set_option linter.unusedSectionVars false
set_option linter.unusedSimpArgs false
open Go.RowKit Go.Proofs.YtchkmhbngbgjnaaGreatDoorW.PrintWords Go.Proofs.YtchkmhbngbgjnaaGreatDoorW.PrintLast Go.Proofs.YtchkmhbngbgjnaaGreatDoorW.PrintMore
theorem StC.get {w : World} {A : Option Addr} {L : List Zs} (h : StC w A L) {i : Nat} (hi : i < L.length) : ∃ (ad : Addr) (g : Nat) (Ag An : Option Addr) (cg cn : Nat), A = some ad ∧ w.cell? (ad.add i) = some (.pointer (some ⟨g, 0, none⟩)) ∧ w.heap[g]? = some (.cells (zCells (zAt L i) (.slice Ag (zAt L i).cs.length cg) (.slice An (zAt L i).next.length cn)) 47 (0, 0)) ∧
  ((zAt L i).cs.length ≤ cg ∧ Kd.C (Kd.int .u8) w Ag (zAt L i).cs.length (zAt L i).cs) ∧ (zAt L i).next.length ≤ cn ∧ Kd.C (Kd.int .i64) w An (zAt L i).next.length (zAt L i).next := h.at' i (zAt L i) (drop_zAt hi).2
end Go.Proofs.YtchkmhbngbgjnaaGreatDoor.Q
end
section
namespace Go.Proofs.YtchkmhbngbgjnaaGreatDoor.Q
set_option linter.unusedSectionVars false
set_option linter.unusedSimpArgs false
open Go.RowKit Go.Proofs.YtchkmhbngbgjnaaGreatDoorW.PrintWords Go.Proofs.YtchkmhbngbgjnaaGreatDoorW.PrintLast Go.Proofs.YtchkmhbngbgjnaaGreatDoorW.PrintMore
def layZ (out : List Int) (far : Nat) : List Int := (out ++ List.replicate (far + 1 - out.length) 0).set far (wrap64 ((out ++ List.replicate (far + 1 - out.length) 0).getD far 0 + 1))
def laysZ : List Zs → List Int → Option (List Int)
 | [], out => some out
 | z :: L, out => if 0 ≤ z.far ∧ z.far ≤ 1000 ∧ out.length ≤ 1001 then laysZ L (layZ out z.far.toNat) else none
def spec_LayersOf.f (k : Nat) (t : ByteArray) : Option (List Int × Bool) := (spec_reAll.f k t).bind fun a => (laysZ a.1 []).bind fun out => some (out, a.2)
theorem layZ_more {o : List Int} {q : Nat} (h : o.length ≤ q) : layZ (o ++ [0]) q = layZ o q := by
 have e : (o ++ [0]) ++ List.replicate (q + 1 - (o ++ [0]).length) 0 = o ++ List.replicate (q + 1 - o.length) (0 : Int) := by
  rw [List.append_assoc, List.length_append, List.length_singleton, show q + 1 - o.length = (q + 1 - (o.length + 1)) + 1 by omega, List.replicate_succ]
  rfl
 unfold layZ
 rw [e]
theorem layZ_end {o : List Int} {q : Nat} (h : q < o.length) : layZ o q = o.set q (wrap64 (rd o (q : Int) + 1)) := by
 have e : o ++ List.replicate (q + 1 - o.length) (0 : Int) = o := by rw [show q + 1 - o.length = 0 by omega]; simp
 unfold layZ rd
 rw [e, Int.toNat_natCast]
set_option maxHeartbeats 8000000 in
set_option maxRecDepth 100000 in
theorem spec_LayersOf.calls (k : Nat) (a0 : ByteArray) (r1 : List Int) (r2 : Bool) (w : World) (h : spec_LayersOf.f k a0 = some (r1, r2)) :
  Calls Tryz.prog 11 #[.string a0] w fun e w' => ∃ v0_ : Value, e = .returned (.tuple #[v0_, .bool r2]) ∧ Kd.R (Kd.int .i64) 3 w' w.heap.size (fun _ => True) v0_ r1 ∧ Below w.heap.size w w' := by
 unfold spec_LayersOf.f at h
 obtain ⟨⟨L, ok⟩, ha, h⟩ := Option.bind_eq_some_iff.1 h
 obtain ⟨out, hl, h⟩ := Option.bind_eq_some_iff.1 h
 simp only [Option.some.injEq, Prod.mk.injEq] at h
 obtain ⟨rfl, rfl⟩ := h
 have HA := Aside0.mk ha
 have HL := Aside0.mk hl
 clear ha hl
 go_enter Tryz.func11, Tryz.ntmps11
 go_wp2_with (first
  | (go_at_call 30; refine (spec_reAll.calls k a0 L ok _ HA.out).mono ?_; rintro e w1 ⟨A1, c1, rfl, hc1, hl1, hs1, hb1⟩; (have HB1 := Aside0.mk hb1); (have HC1 := Aside0.mk (show L.length ≤ c1 ∧ L.length ≤ 300 from ⟨hc1, hl1⟩)); (have HS1 := Aside0.mk hs1); clear hc1 hl1 hs1 hb1))
 go_loopg [6, 16] L.length (fun gg v6 v16 wr => ∃ (i : Nat) (vv : Value) (o : List Int), v6 = vv ∧ v16 = .int .i64 i ∧ Aside0 ((i ≤ L.length ∧ L.length - i ≤ gg) ∧ laysZ (L.drop i) o = some out) ∧ Aside0 (Kd.R (Kd.int .i64) 3 wr w1.heap.size (fun _ => True) vv o) ∧ Aside0 (Below w1.heap.size w1 wr))
 case atStart => exact ⟨0, _, [], rfl, by first | rfl | (simp; done), ⟨⟨Nat.zero_le _, Nat.le_refl _⟩, HL.out⟩, ⟨Kd.R_nil _ _ _ _ _⟩, ⟨Below.refl _ _⟩⟩
 case round =>
  clear HL
  obtain ⟨i, vv, o, rfl, rfl, HA, HO, HB⟩ := hrel
  by_cases hli : i < L.length
  ·have c2 : decide ((i : Int) < (L.length : Int)) = true := decide_eq_true (by omega)
   have p1 : (0 ≤ (i : Int)) = True := eq_true (by omega)
   have p2 : ((i : Int) < (L.length : Int)) = True := eq_true (by omega)
   have hsp := HA.out.2
   rw [(drop_zAt hli).1, laysZ] at hsp
   split at hsp
   case isFalse => cases hsp
   rename_i hf
   have HLI := Aside0.mk hli
   obtain ⟨q, hq⟩ := Int.eq_ofNat_of_zero_le hf.1
   obtain ⟨ad, g, Ag, An, cg, cn, e1, x1, x2, _, _⟩ := HS1.out.get hli
   cases e1
   have HX3 := Aside0.mk (show w1.cell? ⟨g, 4, none⟩ = some (.int .i64 (q : Int)) by rw [← hq]; exact (blk_cell x2 4).trans rfl)
   have y1 := pw_cell_below HB.out x1
   rw [hq, Int.toNat_natCast] at hsp
   have HQ := Aside0.mk (show q ≤ 1000 ∧ o.length ≤ 1001 by omega)
   have HNX := Aside0.mk hsp
   have HGK := Aside0.mk (show L.length - i ≤ gk from HA.out.1.2)
   clear hsp HA hli hf hq x1 x2
   go_wp2_with fail
   go_loopg [6] (q + 1) (fun gg v6 wr => ∃ (vv : Value) (o2 : List Int), v6 = vv ∧ Aside0 ((o2.length ≤ 1001 ∧ q + 1 - o2.length ≤ gg) ∧ laysZ (L.drop (i + 1)) (layZ o2 q) = some out) ∧ Aside0 (Kd.R (Kd.int .i64) 3 wr w1.heap.size (fun _ => True) vv o2) ∧ Aside0 (Below w1.heap.size w1 wr))
   case atStart => exact ⟨_, o, rfl, ⟨⟨HQ.out.2, by omega⟩, HNX.out⟩, HO, HB⟩
   case round =>
    clear HO HB HNX y1 c2 p1 p2
    obtain ⟨vv, o2, rfl, HA, HO, HB⟩ := hrel
    obtain ⟨Ao, co, eo, hco, hCo⟩ := Kd.R_reads HO.out
    have HO2 := Aside0.mk (show Kd.R (Kd.int .i64) 3 wr w1.heap.size (fun _ => True) (.slice Ao o2.length co) o2 by rw [← eo]; exact HO.out)
    subst eo
    have x3 := pw_cell_below HB.out HX3.out
    have HA2 := HA
    by_cases hq : o2.length ≤ q
    ·have c2 : decide (o2.length ≤ q) = true := decide_eq_true hq
     have HLE := Aside0.mk hq
     clear hq hco hCo HO HA
     go_wp2_with (first
      | ((with_reducible refine gate_dst (N := 29) rfl ?_); refine Kd.R_append (Kd.int .i64) (w0 := w1) w1.heap.size rfl (.tmp 27) (.tmp 28) 22 3 (.int .i64 0) 8 rfl Tryz.underlying22 info3 rfl (by decide) (by omega) (.slice Ao o2.length co) o2 0 [.int .i64 0] (fun _ => True) (fun _ => False) ?h1 ?h2 ?aP (fun _ hk => hk.elim) ?aF ?aO ?aB ?aS ?aL ?_; (case h1 => rfl); (case h2 => rfl); (case aP => exact rfl); (case aB => exact HB.out); (case aF => exact (fun _ _ => trivial)); (case aO => exact HO2.out); (case aS => exact HB.out.size); (case aL => have := HA2.out.1; omega); intro v14 w14 ho14 hb14 _ _; (have HO14 := Aside0.mk ho14); (have HB14 := Aside0.mk hb14); clear ho14 hb14 x3))
     go_roundg (q + 1 - (o2.length + 1))
     case measure => have := HLE.out; have := HA2.out.1; omega
     case rel => exact ⟨_, o2 ++ [0], rfl, ⟨⟨by rw [List.length_append, List.length_singleton]; have := HLE.out; have := HQ.out; omega, by rw [List.length_append, List.length_singleton]; omega⟩, by rw [layZ_more HLE.out]; exact HA2.out.2⟩, HO14, HB14⟩
    ·have c2 : decide (o2.length ≤ q) = false := decide_eq_false hq
     obtain ⟨inner, hown⟩ := Kd.R_own HO2.out
     obtain ⟨gb, cb, eb, _, _⟩ := hown.form (by omega)
     injection eb with eb _ eb2
     subst eb eb2
     have hnx := HA2.out.2
     rw [layZ_end (by omega)] at hnx
     have HNX := Aside0.mk hnx
     have p3 : 0 ≤ (q : Int) := by omega
     have q3 : (q : Int) < (o2.length : Int) := by omega
     obtain ⟨hx, hf⟩ := Kd.R_celln 0 HO2.out (q : Int) p3 q3
     have HP := Aside0.mk (Kd.R_putn HO2.out (q : Int) (wrap64 (rd o2 (q : Int) + 1)))
     have HBB := Aside0.mk (show w1.heap.size ≤ gb by have := Kd.R_base HO2.out gb rfl; exact this)
     rw [Int.toNat_natCast] at hx hf
     have hx : wr.cell? ⟨gb, q, none⟩ = some (.int .i64 (rd o2 (q : Int))) := hx
     have HL2 := Aside0.mk (show o2.length ≤ 1001 from HA2.out.1.1)
     replace p3 := eq_true p3
     replace q3 := eq_true q3
     clear hq hco hCo HO HA hown hnx
     go_wp2
     go_roundg (L.length - (i + 1))
     case measure => have := HGK.out; have := HLI.out; omega
     case rel => exact ⟨i + 1, .slice (some ⟨gb, 0, none⟩) o2.length co, o2.set q (wrap64 (rd o2 (q : Int) + 1)), rfl, by first | rfl | rw [wrap64_nat i (by have := HLI.out; have := HC1.out; omega)] | simp, ⟨⟨by have := HLI.out; omega, Nat.le_refl _⟩, HNX.out⟩, HP, ⟨below_set HB.out HBB.out⟩⟩
  ·obtain rfl : i = L.length := by have := HA.out.1.1; omega
   have c2 : decide ((L.length : Int) < (L.length : Int)) = false := decide_eq_false (by omega)
   have hsp := HA.out.2
   rw [List.drop_length, laysZ] at hsp
   obtain rfl := Option.some.inj hsp
   clear hsp HA hli
   go_wp2
   go_ret2
   exact ⟨_, rfl, Kd.R_lower HO.out HB1.out.size, below_then HB1.out HB1.out.size HB.out⟩
end Go.Proofs.YtchkmhbngbgjnaaGreatDoor.Q
end
section
namespace Go.Proofs.YtchkmhbngbgjnaaGreatDoor.Q
open Go.RowKit Go.Proofs.YtchkmhbngbgjnaaGreatDoorW.PrintWords Go.Proofs.YtchkmhbngbgjnaaGreatDoorW.PrintLast Go.Proofs.YtchkmhbngbgjnaaGreatDoorW.PrintMore
attribute [local go_sem] max2_int min2_int max_two min_two max_three min_three max_four min_four
set_option linter.unusedVariables false
set_option linter.unusedSimpArgs false
def impl_LayersOf.l0 : Nat → List Int → List Int → Int → Int → Option (List Int × Bool)
 | 0, _, _, _, _ => none
 | k + 1, x6, x22, x23, x24 => if x24 < x23 then (if 0 ≤ x24 then (if x24 < (x22.length : Int) then (if 0 ≤ (rd x22 x24) then (if (rd x22 x24) < (x6.length : Int) then (impl_LayersOf.l0 k (x6.set ((rd x22 x24) : Int).toNat (wrap64 ((rd x6 (rd x22 x24)) + 1))) x22 x23 (wrap64 (x24 + 1))) else (none)) else (none)) else (none)) else (none)) else (some (x6, true))
def impl_LayersOf.f (k : Nat) (a0 : ByteArray) : Option (List Int × Bool) := (impl_reachOf.f k a0).bind fun bt101 => (if bt101.2.2.2.2 = true then ((slices_Max_int.f bt101.2.1).bind fun t115 => (if 0 ≤ (wrap64 (t115 + 1)) then (if (wrap64 (t115 + 1) : Int).toNat ≤ 35184372088832 then (impl_LayersOf.l0 k (List.replicate (wrap64 (t115 + 1) : Int).toNat 0) bt101.2.1 (bt101.2.1.length : Int) 0) else (none)) else (none))) else (some (([] : List Int), false)))
set_option maxHeartbeats 8000000 in
set_option maxRecDepth 100000 in
theorem impl_LayersOf.calls (k : Nat) (a0 : ByteArray) (r1 : List Int) (r2 : Bool) (w : World) (hG : GoodW w) (h : impl_LayersOf.f k a0 = some (r1, r2)) :
  Calls Tryz.prog 12 #[.string a0] w fun e w' => ∃ v0_ : Value, e = .returned (.tuple #[v0_, .bool r2]) ∧ Kd.R (Kd.int .i64) 3 w' w.heap.size (fun _ => True) v0_ r1 ∧ Below w.heap.size w w' := by
 have hu51 := Tryz.underlying51
 have HG := Aside0.mk hG
 clear hG
 have HB := Aside0.mk (Below.refl w.heap.size w)
 have H : ((impl_reachOf.f k a0).bind fun bt101 => (if bt101.2.2.2.2 = true then ((slices_Max_int.f bt101.2.1).bind fun t115 => (if 0 ≤ (wrap64 (t115 + 1)) then (if (wrap64 (t115 + 1) : Int).toNat ≤ 35184372088832 then (impl_LayersOf.l0 k (List.replicate (wrap64 (t115 + 1) : Int).toNat 0) bt101.2.1 (bt101.2.1.length : Int) 0) else (none)) else (none))) else (some (([] : List Int), false)))) = some (r1, r2) := h
 clear h
 replace H := Option.bind_eq_some_iff.mp H
 obtain ⟨⟨t101, t104, t107, t110, t113⟩, A20, H⟩ := H
 replace H : (if t113 = true then ((slices_Max_int.f t104).bind fun t115 => (if 0 ≤ (wrap64 (t115 + 1)) then (if (wrap64 (t115 + 1) : Int).toNat ≤ 35184372088832 then (impl_LayersOf.l0 k (List.replicate (wrap64 (t115 + 1) : Int).toNat 0) t104 (t104.length : Int) 0) else (none)) else (none))) else (some (([] : List Int), false))) = some (r1, r2) := H
 have A2 := Aside0.mk A20
 clear A20
 by_cases c3 : t113 = true
 ·subst c3
  have H1 : ((slices_Max_int.f t104).bind fun t115 => (if 0 ≤ (wrap64 (t115 + 1)) then (if (wrap64 (t115 + 1) : Int).toNat ≤ 35184372088832 then (impl_LayersOf.l0 k (List.replicate (wrap64 (t115 + 1) : Int).toNat 0) t104 (t104.length : Int) 0) else (none)) else (none))) = some (r1, r2) := by rw [if_pos rfl] at H; exact H
  clear H
  have H := H1
  clear H1
  replace H := Option.bind_eq_some_iff.mp H
  obtain ⟨t115, A40, H⟩ := H
  replace H : (if 0 ≤ (wrap64 (t115 + 1)) then (if (wrap64 (t115 + 1) : Int).toNat ≤ 35184372088832 then (impl_LayersOf.l0 k (List.replicate (wrap64 (t115 + 1) : Int).toNat 0) t104 (t104.length : Int) 0) else (none)) else (none)) = some (r1, r2) := H
  have A4 := Aside0.mk A40
  clear A40
  obtain ⟨ji5, hji5⟩ : ∃ j_ : Int, (wrap64 (t115 + 1)) = j_ := ⟨_, rfl⟩
  replace H : (if 0 ≤ (ji5) then (if (ji5 : Int).toNat ≤ 35184372088832 then (impl_LayersOf.l0 k (List.replicate (ji5 : Int).toNat 0) t104 (t104.length : Int) 0) else (none)) else (none)) = some (r1, r2) := by first | (rw [hji5] at H; exact H) | (simp only [hji5] at H ⊢; exact H)
  (try rw [hji5] at A2)
  (try rw [hji5] at A4)
  have hji5w : (IntKind.i64.wrap (t115 + 1)) = ji5 := (i64_w _).trans hji5
  by_cases c6 : 0 ≤ (ji5)
  ·rw [if_pos c6] at H
   have c6b0 := eq_true c6
   have c6b1 : decide (0 ≤ (ji5)) = true := decide_eq_true c6
   clear c6
   by_cases c7 : (ji5 : Int).toNat ≤ 35184372088832
   ·rw [if_pos c7] at H
    have c7b0 := eq_true c7
    have c7b1 : decide ((ji5 : Int).toNat ≤ 35184372088832) = true := decide_eq_true c7
    clear c7
    obtain ⟨y116, hy116⟩ : ∃ y_ : List Int, y_ = (List.replicate (ji5 : Int).toNat 0) := ⟨_, rfl⟩
    replace H : (impl_LayersOf.l0 k y116 t104 (t104.length : Int) 0) = some (r1, r2) := rH hy116 H
    have Ny116 := Aside0.mk hy116
    clear hy116
    have H' := Aside0.mk H
    clear H
    go_enter Tryz.func12, Tryz.ntmps12
    go_wp2_with (first | ((with_reducible refine gate_callee (f := 31) rfl ?_); refine gcall (some 11) Tryz.func31 #[.string a0] rfl ?_; (with_reducible refine (impl_reachOf.calls k a0 t101 t104 t107 t110 true _ ?side1 A2.out).mono ?_); (case side1 => (refine GoodW.below HG.out ?_); exact bel HB); rintro e w8 ⟨v102, v105, v108, v111, rfl, ho0, ho1, ho2, ho3, hb⟩; refine ⟨_, rfl, ?_⟩; have n0_ := Aside0.mk (Kd.R_lower ho0 (below_size (bel HB))); have n1_ := Aside0.mk (Kd.R_lower ho1 (below_size (bel HB))); have n2_ := Aside0.mk (Kd.S_lower ho2 (below_size (bel HB))); have n3_ := Aside0.mk (Kd.R_lower ho3 (below_size (bel HB))); have n4_ := Aside0.mk (below_step (bel HB) hb); clear HB; have HO103 := n0_; have HO106 := n1_; have HO109 := n2_; have HO112 := n3_; have HB := n4_; clear n0_ n1_ n2_ n3_ n4_; (try clear hb); (try clear hb2); (try clear hk); (try clear hi); (try clear ho0); (try clear ho1); (try clear ho2); (try clear ho3)) | ((with_reducible refine gate_dst (N := 4) rfl ?_); refine boxE (N := 4) (cs := #[.slice none 0 0, .slice none 0 0, .slice none 0 0, .slice none 0 0]) (t := 51) ?_; intro gb114 hg w9 hbox hb; have n0_ := Aside0.mk (Kd.R_below (rch HO103) hb); have n1_ := Aside0.mk (Kd.R_below (rch HO106) hb); have n2_ := Aside0.mk (Kd.S_below (by (with_reducible repeat (first | apply Kd.S_alloc | apply Kd.S_drewN | apply Kd.S_drew)); (first | exact HO109.out | exact R_any HO109.out)) hb); have n3_ := Aside0.mk (Kd.R_below (rch HO112) hb); have n4_ := Aside0.mk (below_step (bel HB) hb); have n5_ := Aside0.mk (hbox); have n6_ := Aside0.mk (gsz hg (bel HB)); have n7_ := Aside0.mk (gsz hg (bel HB)); clear HO103; clear HO106; clear HO109; clear HO112; clear HB; have HO103 := n0_; have HO106 := n1_; have HO109 := n2_; have HO112 := n3_; have HB := n4_; have BK114 := n5_; have GW114 := n6_; have GE114 := n7_; clear n0_ n1_ n2_ n3_ n4_ n5_ n6_ n7_; clear hb hbox hg; obtain ⟨Ao10, co10, eo10⟩ := Kd.R_slice HO103.out; subst eo10; have hcz11_0 : w9.cell? ⟨gb114, 0, none⟩ = some (.slice none 0 0) := (blk_cell BK114.out 0).trans rfl; have hcz11_1 : w9.cell? ⟨gb114, 1, none⟩ = some (.slice none 0 0) := (blk_cell BK114.out 1).trans rfl; have hcz11_2 : w9.cell? ⟨gb114, 2, none⟩ = some (.slice none 0 0) := (blk_cell BK114.out 2).trans rfl; have hcz11_3 : w9.cell? ⟨gb114, 3, none⟩ = some (.slice none 0 0) := (blk_cell BK114.out 3).trans rfl; have hfz11_0 := blk_frozen BK114.out 0; have hfz11_1 := blk_frozen BK114.out 1; have hfz11_2 := blk_frozen BK114.out 2; have hfz11_3 := blk_frozen BK114.out 3; obtain ⟨Ao12, co12, eo12⟩ := Kd.R_slice HO106.out; subst eo12; obtain ⟨Ao13, co13, eo13⟩ := Kd.S_slice HO109.out; subst eo13; obtain ⟨Ao14, co14, eo14⟩ := Kd.R_slice HO112.out; subst eo14) | ((with_reducible refine gate_callee (f := 32) rfl ?_); refine gcall (some 18) Tryz.func32 #[.slice Ao12 t104.length co12] rfl ?_; (with_reducible refine (slices_Max_int.calls _ _ t104 t115 _ ?side1 ?side2 A4.out).mono ?_); (case side1 => refine (Kd.R_reads' (e := 3) (base := w.heap.size) (ok := fun k_ => True) (n := t104.length) (c := co12) ?_).2.2; exact (by (with_reducible repeat (first | apply Kd.R_alloc | apply Kd.R_drewN | apply Kd.R_drew)); exact (Kd.R_mono (Kd.R_far (p := ⟨gb114, 3, none⟩) (Kd.R_far (p := ⟨gb114, 2, none⟩) (Kd.R_far (p := ⟨gb114, 1, none⟩) (Kd.R_far (p := ⟨gb114, 0, none⟩) (Kd.R_types HO106.out BK114.out (by decide)) (fun _ hk => hk.2) (.slice Ao10 t101.length co10)) (fun _ hk => hk.2) (.slice Ao12 t104.length co12)) (fun _ hk => hk.2) (.slice Ao13 t107.length co13)) (fun _ hk => hk.2) (.slice Ao14 t110.length co14)) (fun _ h_ => h_.1)))); (case side2 => exact (Kd.R_reads' HO106.out).2.1); rintro e w' ⟨rfl, ⟨nd, rfl⟩⟩; refine ⟨_, rfl, ?_⟩) | ((with_reducible refine gate_dst (N := 20) rfl ?_); refine Kd.R_make (Kd.int .i64) _ 3 rfl (N := 20) rfl 22 _ _ rfl ji5 rfl rfl Tryz.underlying22 (.int .i64 0) 8 info3 rfl (by decide) (by omega) 0 (ok := fun _ => True) (okp := fun _ => True) rfl (fun _ hk => hk) trivial (of_decide_eq_true (by first | (with_reducible assumption) | assumption)) (Nat.le_trans (Nat.mul_le_mul_right _ (of_decide_eq_true (by first | (with_reducible assumption) | assumption) : ji5.toNat ≤ 35184372088832)) (by omega)) (Below.refl _ _) (Nat.le_refl _) ?_; intro v117 w15 ho16 hb hg_ hnew_; clear hg_ hnew_; (first | rw [← Ny116.out] at ho16 | (simp only [Int.reduceToNat] at ho16; rw [← Ny116.out] at ho16)); have n0_ := Aside0.mk (Kd.R_below (by (with_reducible repeat (first | apply Kd.R_alloc | apply Kd.R_drewN | apply Kd.R_drew)); exact (Kd.R_mono (Kd.R_far (p := ⟨gb114, 3, none⟩) (Kd.R_far (p := ⟨gb114, 2, none⟩) (Kd.R_far (p := ⟨gb114, 1, none⟩) (Kd.R_far (p := ⟨gb114, 0, none⟩) (Kd.R_types HO103.out BK114.out (by decide)) (fun _ hk => hk.2) (.slice Ao10 t101.length co10)) (fun _ hk => hk.2) (.slice Ao12 t104.length co12)) (fun _ hk => hk.2) (.slice Ao13 t107.length co13)) (fun _ hk => hk.2) (.slice Ao14 t110.length co14)) (fun _ h_ => h_.1))) hb); have n1_ := Aside0.mk (Kd.R_elder' (by (with_reducible repeat (first | apply Kd.R_alloc | apply Kd.R_drewN | apply Kd.R_drew)); exact (Kd.R_mono (Kd.R_far (p := ⟨gb114, 3, none⟩) (Kd.R_far (p := ⟨gb114, 2, none⟩) (Kd.R_far (p := ⟨gb114, 1, none⟩) (Kd.R_far (p := ⟨gb114, 0, none⟩) (Kd.R_types HO106.out BK114.out (by decide)) (fun _ hk => hk.2) (.slice Ao10 t101.length co10)) (fun _ hk => hk.2) (.slice Ao12 t104.length co12)) (fun _ hk => hk.2) (.slice Ao13 t107.length co13)) (fun _ hk => hk.2) (.slice Ao14 t110.length co14)) (fun _ h_ => h_.1))) (Kd.R_base ho16) hb); have n2_ := Aside0.mk (Kd.S_elder' (by (with_reducible repeat (first | apply Kd.S_alloc | apply Kd.S_drewN | apply Kd.S_drew)); exact (Kd.S_mono (Kd.S_far (p := ⟨gb114, 3, none⟩) (Kd.S_far (p := ⟨gb114, 2, none⟩) (Kd.S_far (p := ⟨gb114, 1, none⟩) (Kd.S_far (p := ⟨gb114, 0, none⟩) (Kd.S_types HO109.out BK114.out (by decide)) (fun _ hk => hk.2) (.slice Ao10 t101.length co10)) (fun _ hk => hk.2) (.slice Ao12 t104.length co12)) (fun _ hk => hk.2) (.slice Ao13 t107.length co13)) (fun _ hk => hk.2) (.slice Ao14 t110.length co14)) (fun _ h_ => h_.1))) (Kd.R_base ho16) hb); have n3_ := Aside0.mk (Kd.R_below (by (with_reducible repeat (first | apply Kd.R_alloc | apply Kd.R_drewN | apply Kd.R_drew)); exact (Kd.R_mono (Kd.R_far (p := ⟨gb114, 3, none⟩) (Kd.R_far (p := ⟨gb114, 2, none⟩) (Kd.R_far (p := ⟨gb114, 1, none⟩) (Kd.R_far (p := ⟨gb114, 0, none⟩) (Kd.R_types HO112.out BK114.out (by decide)) (fun _ hk => hk.2) (.slice Ao10 t101.length co10)) (fun _ hk => hk.2) (.slice Ao12 t104.length co12)) (fun _ hk => hk.2) (.slice Ao13 t107.length co13)) (fun _ hk => hk.2) (.slice Ao14 t110.length co14)) (fun _ h_ => h_.1))) hb); have n4_ := Aside0.mk (Kd.R_lower (Kd.R_new' ho16 (Kd.R_lt (by (with_reducible repeat (first | apply Kd.R_alloc | apply Kd.R_drewN | apply Kd.R_drew)); exact (Kd.R_mono (Kd.R_far (p := ⟨gb114, 3, none⟩) (Kd.R_far (p := ⟨gb114, 2, none⟩) (Kd.R_far (p := ⟨gb114, 1, none⟩) (Kd.R_far (p := ⟨gb114, 0, none⟩) (Kd.R_types HO106.out BK114.out (by decide)) (fun _ hk => hk.2) (.slice Ao10 t101.length co10)) (fun _ hk => hk.2) (.slice Ao12 t104.length co12)) (fun _ hk => hk.2) (.slice Ao13 t107.length co13)) (fun _ hk => hk.2) (.slice Ao14 t110.length co14)) (fun _ h_ => h_.1))))) (below_size (bel HB))); have n5_ := Aside0.mk (blk_below (g := gb114) (o := .cells #[.slice Ao10 t101.length co10, .slice Ao12 t104.length co12, .slice Ao13 t107.length co13, .slice Ao14 t110.length co14] 51 (0, 0)) (by (with_reducible repeat (first | refine blk_drewN ?_ _ | refine blk_drew ?_ | refine blk_alloc ?_ _)); refine blk_put (cs := #[.slice Ao10 t101.length co10, .slice Ao12 t104.length co12, .slice Ao13 t107.length co13, .slice none 0 0]) ?_ 3 _ rfl; (with_reducible repeat (first | refine blk_drewN ?_ _ | refine blk_drew ?_ | refine blk_alloc ?_ _)); refine blk_put (cs := #[.slice Ao10 t101.length co10, .slice Ao12 t104.length co12, .slice none 0 0, .slice none 0 0]) ?_ 2 _ rfl; (with_reducible repeat (first | refine blk_drewN ?_ _ | refine blk_drew ?_ | refine blk_alloc ?_ _)); refine blk_put (cs := #[.slice Ao10 t101.length co10, .slice none 0 0, .slice none 0 0, .slice none 0 0]) ?_ 1 _ rfl; (with_reducible repeat (first | refine blk_drewN ?_ _ | refine blk_drew ?_ | refine blk_alloc ?_ _)); refine blk_put (cs := #[.slice none 0 0, .slice none 0 0, .slice none 0 0, .slice none 0 0]) ?_ 0 _ rfl; exact blc) hb); have n6_ := Aside0.mk (below_step (bel HB) hb); clear HO103; clear HO106; clear HO109; clear HO112; clear BK114; clear HB; have HO103 := n0_; have HO106 := n1_; have HO109 := n2_; have HO112 := n3_; have HO118 := n4_; have BK114 := n5_; have HB := n6_; clear n0_ n1_ n2_ n3_ n4_ n5_ n6_; clear hb ho16; have hcz17_0 : w15.cell? ⟨gb114, 0, none⟩ = some (.slice Ao10 t101.length co10) := (blk_cell BK114.out 0).trans rfl; have hcz17_1 : w15.cell? ⟨gb114, 1, none⟩ = some (.slice Ao12 t104.length co12) := (blk_cell BK114.out 1).trans rfl; have hcz17_2 : w15.cell? ⟨gb114, 2, none⟩ = some (.slice Ao13 t107.length co13) := (blk_cell BK114.out 2).trans rfl; have hcz17_3 : w15.cell? ⟨gb114, 3, none⟩ = some (.slice Ao14 t110.length co14) := (blk_cell BK114.out 3).trans rfl; have hfz17_0 := blk_frozen BK114.out 0; have hfz17_1 := blk_frozen BK114.out 1; have hfz17_2 := blk_frozen BK114.out 2; have hfz17_3 := blk_frozen BK114.out 3))
    go_loopg [24] k (fun kq v24 w' => ∃ (x6_1 : List Int) (x24_1 : Int), v24 = .int .i64 x24_1 ∧ Aside0 (impl_LayersOf.l0 kq x6_1 t104 (t104.length : Int) x24_1 = some (r1, r2)) ∧ Aside0 (kq ≤ k) ∧ Aside0 (Kd.R (Kd.int .i64) 3 w' w.heap.size (fun k_ => some k_ ≠ ((.slice Ao12 t104.length co12) : Value).ownBlock ∧ some k_ ≠ ((.slice Ao12 t104.length co12) : Value).ownBlock) v117 x6_1) ∧ Aside0 (Kd.R (Kd.int .i64) 3 w' w.heap.size (fun k_ => some k_ ≠ (v117 : Value).ownBlock) (.slice Ao12 t104.length co12) t104) ∧ Aside0 (Kd.R Kd.string 9 w' w.heap.size (fun k_ => some k_ ≠ ((.slice Ao14 t110.length co14) : Value).ownBlock) (.slice Ao10 t101.length co10) t101) ∧ Aside0 (Kd.R (Kd.int .i64) 3 w' w.heap.size (fun k_ => some k_ ≠ (v117 : Value).ownBlock) (.slice Ao12 t104.length co12) t104) ∧ Aside0 (Kd.S (Kd.slice 3 (Kd.int .i64)) 22 w' w.heap.size (fun k_ => some k_ ≠ (v117 : Value).ownBlock ∧ some k_ ≠ ((.slice Ao12 t104.length co12) : Value).ownBlock ∧ some k_ ≠ ((.slice Ao12 t104.length co12) : Value).ownBlock) (.slice Ao13 t107.length co13) t107) ∧ Aside0 (Kd.R Kd.string 9 w' w.heap.size (fun k_ => some k_ ≠ ((.slice Ao10 t101.length co10) : Value).ownBlock) (.slice Ao14 t110.length co14) t110) ∧ Aside0 (w'.heap[gb114]? = some (.cells #[(.slice Ao10 t101.length co10), (.slice Ao12 t104.length co12), (.slice Ao13 t107.length co13), (.slice Ao14 t110.length co14)] 51 (0, 0))) ∧ Aside0 (Below w.heap.size w w'))
    case atStart => exact ⟨(y116), (0), (by first | rfl | (simp; done) | (simp [*]; done)), H', ⟨Nat.le_refl _⟩, ⟨by (with_reducible repeat (first | apply Kd.R_alloc | apply Kd.R_drewN | apply Kd.R_drew)); exact Kd.R_mono HO118.out (fun _ hk => ⟨hk.2, hk.2⟩)⟩, ⟨by (with_reducible repeat (first | apply Kd.R_alloc | apply Kd.R_drewN | apply Kd.R_drew)); (first | exact Kd.R_mono HO106.out (fun _ hk => hk.2) | exact HO106.out | exact R_any HO106.out)⟩, ⟨rch HO103⟩, ⟨by (with_reducible repeat (first | apply Kd.R_alloc | apply Kd.R_drewN | apply Kd.R_drew)); (first | exact Kd.R_mono HO106.out (fun _ hk => hk.2) | exact HO106.out | exact R_any HO106.out)⟩, ⟨by (with_reducible repeat (first | apply Kd.S_alloc | apply Kd.S_drewN | apply Kd.S_drew)); exact Kd.S_mono HO109.out (fun _ hk => ⟨hk.2, ⟨hk.1, hk.1⟩⟩)⟩, ⟨rch HO112⟩, ⟨blc⟩, ⟨bel HB⟩⟩
    case round =>
     clear H'
     try clear c1
     try clear p2
     try clear c3
     try clear c6
     try clear c6b0
     try clear c6b0y
     try clear c6b1
     try clear p6
     try clear c7
     try clear c7b0
     try clear c7b0y
     try clear c7b1
     try clear c12
     try clear hcz11_0
     try clear hcz11_1
     try clear hcz11_2
     try clear hcz11_3
     try clear hcz17_0
     try clear hcz17_1
     try clear hcz17_2
     try clear hcz17_3
     try clear hfz11_0
     try clear hfz11_1
     try clear hfz11_2
     try clear hfz11_3
     try clear hfz17_0
     try clear hfz17_1
     try clear hfz17_2
     try clear hfz17_3
     obtain ⟨x6_1, x24_1, rfl, HA, HK1, HO_6, HO_22, HO_115000, HO_115001, HO_115002, HO_115003, BK114, HB⟩ := hrel
     cases gk with
     | zero => exact absurd HA.out (by simp [impl_LayersOf.l0])
     | succ k1 =>
      have H := HA.out
      clear HA
      simp only [impl_LayersOf.l0] at H
      by_cases c18 : x24_1 < (t104.length : Int)
      ·rw [if_pos c18] at H
       have c18b0 : decide (x24_1 < (t104.length : Int)) = true := decide_eq_true c18
       clear c18
       by_cases c19 : 0 ≤ x24_1
       ·rw [if_pos c19] at H
        have c19b0 : decide (0 ≤ x24_1) = true := decide_eq_true c19
        clear c19
        by_cases c20 : x24_1 < (t104.length : Int)
        ·rw [if_pos c20] at H
         have c20b0 : decide (x24_1 < (t104.length : Int)) = true := decide_eq_true c20
         clear c20
         by_cases c21 : 0 ≤ (rd t104 x24_1)
         ·rw [if_pos c21] at H
          have c21b0 : decide (0 ≤ (rd t104 x24_1)) = true := decide_eq_true c21
          clear c21
          by_cases c22 : (rd t104 x24_1) < (x6_1.length : Int)
          ·rw [if_pos c22] at H
           have c22b0 : decide ((rd t104 x24_1) < (x6_1.length : Int)) = true := decide_eq_true c22
           clear c22
           obtain ⟨y121, hy121⟩ : ∃ y_ : List Int, y_ = (x6_1.set ((rd t104 x24_1) : Int).toNat (wrap64 ((rd x6_1 (rd t104 x24_1)) + 1))) := ⟨_, rfl⟩
           replace H : (impl_LayersOf.l0 k1 y121 t104 (t104.length : Int) (wrap64 (x24_1 + 1))) = some (r1, r2) := rH hy121 H
           have Ny121 := Aside0.mk hy121
           clear hy121
           have H' := Aside0.mk H
           clear H
           have p119 : 0 ≤ (x24_1 : Int) := of_decide_eq_true (by first | (with_reducible assumption) | assumption)
           have q119 : x24_1 < (t104.length : Int) := of_decide_eq_true (by first | (with_reducible assumption) | assumption)
           obtain ⟨ad119, e119, hx119_0⟩ := Kd.at_int (Kd.R_reads' HO_22.out).2.2 x24_1 p119 q119
           cases e119
           replace p119 := eq_true p119
           replace q119 := eq_true q119
           obtain ⟨Ao24, co24, eo24⟩ := Kd.R_slice HO_6.out
           subst eo24
           have p120 : 0 ≤ ((rd t104 x24_1) : Int) := of_decide_eq_true (by first | (with_reducible assumption) | assumption)
           have q120 : (rd t104 x24_1) < (x6_1.length : Int) := of_decide_eq_true (by first | (with_reducible assumption) | assumption)
           obtain ⟨ad120, e120, hx120_0⟩ := Kd.at_int (Kd.R_reads' HO_6.out).2.2 (rd t104 x24_1) p120 q120
           cases e120
           replace p120 := eq_true p120
           replace q120 := eq_true q120
           have p23 : 0 ≤ ((rd t104 x24_1) : Int) := of_decide_eq_true (by first | (with_reducible assumption) | assumption)
           have q23 : ((rd t104 x24_1) : Int) < ((x6_1.length : Int) : Int) := of_decide_eq_true (by first | (with_reducible assumption) | assumption)
           obtain ⟨go23, co23, eo23, gb23, gl23, cl23, HG23⟩ := Kd.R_form HO_6.out (by omega)
           (first | cases eo23 | (injection eo23 with ea_ en_ ec_; (first | subst ea_ | (injection ea_ with ea_; subst ea_)); subst ec_; clear en_))
           have GB23 := Aside0.mk gb23
           have GG23 := Aside0.mk HG23
           clear gb23 gl23 HG23
           (first | simp only [add_plain] at hx120_0 | skip)
           obtain ⟨hx23_0, hf23_0⟩ := Kd.R_celln 0 HO_6.out ((rd t104 x24_1) : Int) p23 q23
           replace p23 := eq_true p23
           replace q23 := eq_true q23
           have HP25 := Kd.R_putg HO_6.out ((rd t104 x24_1) : Int) (wrap64 ((rd x6_1 (rd t104 x24_1)) + 1))
           go_wp2_with (first | ((with_reducible refine gate_store (t := 3) (p := 33) rfl ?_); refine store_event (t := 3) (p := 33) (v := ?vo_w26) (w1 := (wr.setCell ⟨go23, ((rd t104 x24_1) : Int).toNat, none⟩ (.int .i64 (wrap64 ((rd x6_1 (rd t104 x24_1)) + 1))))) ?hg ?ho ?hn ?hr ?_; (case ho => rfl); (case hg => rfl); (case hn => rfl); (case hr => first | (go_simp; done) | (go_simp; rfl)); intro w26 hw; have hg : wr.grownBy w26 (some go23) := (by rw [hw]; exact HP25.2); have hp_ : Kd.R (Kd.int .i64) 3 w26 w.heap.size (fun k_ => some k_ ≠ (.slice (some ad119) t104.length co12 : Value).ownBlock ∧ some k_ ≠ (.slice (some ad119) t104.length co12 : Value).ownBlock) (.slice (some ⟨go23, 0, none⟩) x6_1.length co24) y121 := (by rw [hw, Ny121.out]; (first | exact HP25.1 | exact R_any HP25.1)); clear HP25; have n0_ := Aside0.mk (hp_); have n1_ := Aside0.mk (Kd.R_after (v := (.slice (some ⟨go23, 0, none⟩) x6_1.length co24)) (v1 := (.slice (some ⟨go23, 0, none⟩) x6_1.length co24)) (ok := (fun _ => True)) (by (with_reducible repeat (first | apply Kd.R_alloc | apply Kd.R_drewN | apply Kd.R_drew)); exact Kd.R_mono HO_22.out (fun _ hk => ⟨trivial, hk⟩)) hg (.inl rfl)); have n2_ := Aside0.mk (Kd.R_over' (v := (.slice (some ⟨go23, 0, none⟩) x6_1.length co24)) (rch HO_115000) (Kd.R_typed HO_6.out) (by decide) hg); have n3_ := Aside0.mk (Kd.R_after (v := (.slice (some ⟨go23, 0, none⟩) x6_1.length co24)) (v1 := (.slice (some ⟨go23, 0, none⟩) x6_1.length co24)) (ok := (fun _ => True)) (by (with_reducible repeat (first | apply Kd.R_alloc | apply Kd.R_drewN | apply Kd.R_drew)); exact Kd.R_mono HO_115001.out (fun _ hk => ⟨trivial, hk⟩)) hg (.inl rfl)); have n4_ := Aside0.mk (Kd.S_after (v := (.slice (some ⟨go23, 0, none⟩) x6_1.length co24)) (v1 := (.slice (some ⟨go23, 0, none⟩) x6_1.length co24)) (ok := (fun k_ => some k_ ≠ (.slice (some ad119) t104.length co12 : Value).ownBlock ∧ some k_ ≠ (.slice (some ad119) t104.length co12 : Value).ownBlock)) (by (with_reducible repeat (first | apply Kd.S_alloc | apply Kd.S_drewN | apply Kd.S_drew)); exact Kd.S_mono HO_115002.out (fun _ hk => ⟨⟨hk.2.1, hk.2.2⟩, hk.1⟩)) hg (.inl rfl)); have n5_ := Aside0.mk (Kd.R_over' (v := (.slice (some ⟨go23, 0, none⟩) x6_1.length co24)) (rch HO_115003) (Kd.R_typed HO_6.out) (by decide) hg); have n6_ := Aside0.mk (blk_grown (g := gb114) (o := .cells #[.slice Ao10 t101.length co10, .slice (some ad119) t104.length co12, .slice Ao13 t107.length co13, .slice Ao14 t110.length co14] 51 (0, 0)) blc hg (Kd.R_ne HO_6.out BK114.out (by decide))); have n7_ := Aside0.mk ((by rw [hw]; exact below_set (HB.out) GB23.out : Below w.heap.size w w26)); clear HO_6; clear HO_22; clear HO_115000; clear HO_115001; clear HO_115002; clear HO_115003; clear BK114; clear HB; have HO_6 := n0_; have HO_22 := n1_; have HO_115000 := n2_; have HO_115001 := n3_; have HO_115002 := n4_; have HO_115003 := n5_; have BK114 := n6_; have HB := n7_; clear n0_ n1_ n2_ n3_ n4_ n5_ n6_ n7_; clear hg hw hp_))
           go_roundg k1
           case measure => have := HK1.out; omega
           case rel => exact ⟨(y121), (wrap64 (x24_1 + 1)), (by first | rfl | (simp; done) | (simp [*]; done)), H', ⟨by have := HK1.out; omega⟩, ⟨rch HO_6⟩, ⟨by (with_reducible repeat (first | apply Kd.R_alloc | apply Kd.R_drewN | apply Kd.R_drew)); (first | exact Kd.R_mono HO_22.out (fun _ hk => hk.2) | exact HO_22.out | exact R_any HO_22.out)⟩, ⟨rch HO_115000⟩, ⟨by (with_reducible repeat (first | apply Kd.R_alloc | apply Kd.R_drewN | apply Kd.R_drew)); (first | exact Kd.R_mono HO_115001.out (fun _ hk => hk.2) | exact HO_115001.out | exact R_any HO_115001.out)⟩, ⟨by (with_reducible repeat (first | apply Kd.S_alloc | apply Kd.S_drewN | apply Kd.S_drew)); exact Kd.S_mono HO_115002.out (fun _ hk => ⟨hk.2, ⟨hk.1.1, hk.1.2⟩⟩)⟩, ⟨rch HO_115003⟩, ⟨blc⟩, ⟨bel HB⟩⟩
          ·rw [if_neg c22] at H
           exact absurd H (by simp)
         ·rw [if_neg c21] at H
          exact absurd H (by simp)
        ·rw [if_neg c20] at H
         exact absurd H (by simp)
       ·rw [if_neg c19] at H
        exact absurd H (by simp)
      ·rw [if_neg c18] at H
       have c18b0 : decide (x24_1 < (t104.length : Int)) = false := decide_eq_false c18
       clear c18
       simp only [Option.some.injEq, Prod.mk.injEq] at H
       obtain ⟨rfl, rfl⟩ := H
       go_wp2
       go_ret2
       exact ⟨_, by first | rfl | (simp [errW_none, errW_some] <;> rfl) | (simp only [← hji5]; first | rfl | (simp [errW_none, errW_some] <;> rfl)) | (simp [*, errW_none, errW_some] <;> rfl), by (with_reducible repeat (first | apply Kd.R_alloc | apply Kd.R_drewN | apply Kd.R_drew)); exact Kd.R_mono HO_6.out (fun _ hk => trivial), bel HB⟩
   ·rw [if_neg c7] at H
    exact absurd H (by simp)
  ·rw [if_neg c6] at H
   exact absurd H (by simp)
 ·replace c3 := Bool.eq_false_iff.mpr c3
  subst c3
  have H1 : (some (([] : List Int), false)) = some (r1, r2) := by rw [if_neg (show ¬ (false = true) by decide)] at H; exact H
  clear H
  have H := H1
  clear H1
  simp only [Option.some.injEq, Prod.mk.injEq] at H
  obtain ⟨rfl, rfl⟩ := H
  go_enter Tryz.func12, Tryz.ntmps12
  go_wp2_with (first | ((with_reducible refine gate_callee (f := 31) rfl ?_); refine gcall (some 11) Tryz.func31 #[.string a0] rfl ?_; (with_reducible refine (impl_reachOf.calls k a0 t101 t104 t107 t110 false _ ?side1 A2.out).mono ?_); (case side1 => (refine GoodW.below HG.out ?_); exact bel HB); rintro e w27 ⟨v102, v105, v108, v111, rfl, ho0, ho1, ho2, ho3, hb⟩; refine ⟨_, rfl, ?_⟩; have n0_ := Aside0.mk (Kd.R_lower ho0 (below_size (bel HB))); have n1_ := Aside0.mk (Kd.R_lower ho1 (below_size (bel HB))); have n2_ := Aside0.mk (Kd.S_lower ho2 (below_size (bel HB))); have n3_ := Aside0.mk (Kd.R_lower ho3 (below_size (bel HB))); have n4_ := Aside0.mk (below_step (bel HB) hb); clear HB; have HO103 := n0_; have HO106 := n1_; have HO109 := n2_; have HO112 := n3_; have HB := n4_; clear n0_ n1_ n2_ n3_ n4_; (try clear hb); (try clear hb2); (try clear hk); (try clear hi); (try clear ho0); (try clear ho1); (try clear ho2); (try clear ho3)) | ((with_reducible refine gate_dst (N := 4) rfl ?_); refine boxE (N := 4) (cs := #[.slice none 0 0, .slice none 0 0, .slice none 0 0, .slice none 0 0]) (t := 51) ?_; intro gb114 hg w28 hbox hb; have n0_ := Aside0.mk (Kd.R_below (rch HO103) hb); have n1_ := Aside0.mk (Kd.R_below (rch HO106) hb); have n2_ := Aside0.mk (Kd.S_below (by (with_reducible repeat (first | apply Kd.S_alloc | apply Kd.S_drewN | apply Kd.S_drew)); (first | exact HO109.out | exact R_any HO109.out)) hb); have n3_ := Aside0.mk (Kd.R_below (rch HO112) hb); have n4_ := Aside0.mk (below_step (bel HB) hb); have n5_ := Aside0.mk (hbox); have n6_ := Aside0.mk (gsz hg (bel HB)); have n7_ := Aside0.mk (gsz hg (bel HB)); clear HO103; clear HO106; clear HO109; clear HO112; clear HB; have HO103 := n0_; have HO106 := n1_; have HO109 := n2_; have HO112 := n3_; have HB := n4_; have BK114 := n5_; have GW114 := n6_; have GE114 := n7_; clear n0_ n1_ n2_ n3_ n4_ n5_ n6_ n7_; clear hb hbox hg; obtain ⟨Ao29, co29, eo29⟩ := Kd.R_slice HO103.out; subst eo29; have hcz30_0 : w28.cell? ⟨gb114, 0, none⟩ = some (.slice none 0 0) := (blk_cell BK114.out 0).trans rfl; have hcz30_1 : w28.cell? ⟨gb114, 1, none⟩ = some (.slice none 0 0) := (blk_cell BK114.out 1).trans rfl; have hcz30_2 : w28.cell? ⟨gb114, 2, none⟩ = some (.slice none 0 0) := (blk_cell BK114.out 2).trans rfl; have hcz30_3 : w28.cell? ⟨gb114, 3, none⟩ = some (.slice none 0 0) := (blk_cell BK114.out 3).trans rfl; have hfz30_0 := blk_frozen BK114.out 0; have hfz30_1 := blk_frozen BK114.out 1; have hfz30_2 := blk_frozen BK114.out 2; have hfz30_3 := blk_frozen BK114.out 3; obtain ⟨Ao31, co31, eo31⟩ := Kd.R_slice HO106.out; subst eo31; obtain ⟨Ao32, co32, eo32⟩ := Kd.S_slice HO109.out; subst eo32; obtain ⟨Ao33, co33, eo33⟩ := Kd.R_slice HO112.out; subst eo33))
  go_ret2
  exact ⟨_, by first | rfl | (simp [errW_none, errW_some] <;> rfl) | (simp [*, errW_none, errW_some] <;> rfl), by first | exact Kd.R_nil _ _ _ _ _ | exact Kd.N_nil _ _ _ _ _ | exact Kd.V_nil _ _ _ _ _ | exact Kd.Q_nil _ _ _ _ _ | exact Kd.S_nil _ _ _ _ _, bel HB⟩
mutual
def laws_FnExactLayersOf.j0 : Nat → ByteArray → List Int → Bool → List Int → Bool → Option (Bool)
 | 0, _, _, _, _, _ => none
 | k + 1, x0, x3, x4, x5, x32 => if x32 = true then (some false) else ((laws_markIntS.f k x5 1).bind fun bt110 => ((laws_heldIntS.f k bt110.2 1).bind fun t112 => (if t112 < 0 then (some false) else (if t112 = bt110.1 then ((impl_LayersOf.f k x0).bind fun bt113 => ((laws_eqIntS.f k bt113.1 x3).bind fun t117 => (if t117 = true then (laws_FnExactLayersOf.j1 k bt110.2 bt110.1 (bt113.2 != x4)) else (laws_FnExactLayersOf.j1 k bt110.2 bt110.1 true)))) else (some false)))))
def laws_FnExactLayersOf.j1 : Nat → List Int → Int → Bool → Option (Bool)
 | 0, _, _, _ => none
 | k + 1, x5, x7, x57 => if x57 = true then (some false) else ((laws_heldIntS.f k x5 1).bind fun t118 => (if t118 < 0 then (some false) else (if t118 = x7 then (some true) else (some false))))
end
def laws_FnExactLayersOf.f (k : Nat) (a0 : ByteArray) : Option (Bool) := if (a0.size : Int) > 1048576 then (some true) else ((spec_LayersOf.f k a0).bind fun bt101 => ((impl_LayersOf.f k a0).bind fun bt105 => ((laws_eqIntS.f k bt105.1 bt101.1).bind fun t109 => (if t109 = true then (laws_FnExactLayersOf.j0 k a0 bt101.1 bt101.2 bt105.1 (bt105.2 != bt101.2)) else (laws_FnExactLayersOf.j0 k a0 bt101.1 bt101.2 bt105.1 true)))))
set_option maxHeartbeats 8000000 in
set_option maxRecDepth 100000 in
theorem laws_FnExactLayersOf.calls (k : Nat) (a0 : ByteArray) (r : Bool) (w : World) (hG : GoodW w) (h : laws_FnExactLayersOf.f k a0 = some r) :
  Calls Tryz.prog 3 #[.string a0] w fun e w' => e = .returned (.bool r) ∧ Below w.heap.size w w' := by
 have HG := Aside0.mk hG
 clear hG
 have HB := Aside0.mk (Below.refl w.heap.size w)
 have H : (if (a0.size : Int) > 1048576 then (some true) else ((spec_LayersOf.f k a0).bind fun bt101 => ((impl_LayersOf.f k a0).bind fun bt105 => ((laws_eqIntS.f k bt105.1 bt101.1).bind fun t109 => (if t109 = true then (laws_FnExactLayersOf.j0 k a0 bt101.1 bt101.2 bt105.1 (bt105.2 != bt101.2)) else (laws_FnExactLayersOf.j0 k a0 bt101.1 bt101.2 bt105.1 true)))))) = some r := h
 clear h
 by_cases c2 : (a0.size : Int) > 1048576
 ·rw [if_pos c2] at H
  have c2b0 : decide (1048576 < (a0.size : Int)) = true := decide_eq_true c2
  have c2b1 : decide (1048576 < a0.size) = true := decide_eq_true (by omega)
  clear c2
  obtain rfl := Option.some.inj H
  go_enter Tryz.func3, Tryz.ntmps3
  go_wp2
  go_ret
  exact ⟨by first | rfl | (simp [errW_none, errW_some] <;> rfl) | (simp [*, errW_none, errW_some] <;> rfl), bel HB⟩
 ·rw [if_neg c2] at H
  have c2b0 : decide (1048576 < (a0.size : Int)) = false := decide_eq_false c2
  have c2b1 : decide (1048576 < a0.size) = false := decide_eq_false (by omega)
  clear c2
  replace H := Option.bind_eq_some_iff.mp H
  obtain ⟨⟨t101, t102⟩, A30, H⟩ := H
  replace H : ((impl_LayersOf.f k a0).bind fun bt105 => ((laws_eqIntS.f k bt105.1 t101).bind fun t109 => (if t109 = true then (laws_FnExactLayersOf.j0 k a0 t101 t102 bt105.1 (bt105.2 != t102)) else (laws_FnExactLayersOf.j0 k a0 t101 t102 bt105.1 true)))) = some r := H
  have A3 := Aside0.mk A30
  clear A30
  replace H := Option.bind_eq_some_iff.mp H
  obtain ⟨⟨t105, t106⟩, A40, H⟩ := H
  replace H : ((laws_eqIntS.f k t105 t101).bind fun t109 => (if t109 = true then (laws_FnExactLayersOf.j0 k a0 t101 t102 t105 (t106 != t102)) else (laws_FnExactLayersOf.j0 k a0 t101 t102 t105 true))) = some r := H
  have A4 := Aside0.mk A40
  clear A40
  have HC5 := Aside0.mk H
  clear H
  go_enter Tryz.func3, Tryz.ntmps3
  go_upto_region 5 with (first | ((with_reducible refine gate_callee (f := 11) rfl ?_); refine gcall (some 16) Tryz.func11 #[.string a0] rfl ?_; (with_reducible refine (spec_LayersOf.calls k a0 t101 t102 _ A3.out).mono ?_); rintro e w6 ⟨v103, rfl, ho0, hb⟩; refine ⟨_, rfl, ?_⟩; have n0_ := Aside0.mk (Kd.R_lower ho0 (below_size (bel HB))); have n1_ := Aside0.mk (below_step (bel HB) hb); clear HB; have HO104 := n0_; have HB := n1_; clear n0_ n1_; (try clear hb); (try clear hb2); (try clear hk); (try clear hi); (try clear ho0)) | ((with_reducible refine gate_callee (f := 12) rfl ?_); refine gcall (some 21) Tryz.func12 #[.string a0] rfl ?_; (with_reducible refine (impl_LayersOf.calls k a0 t105 t106 _ ?side1 A4.out).mono ?_); (case side1 => (refine GoodW.below HG.out ?_); exact bel HB); rintro e w7 ⟨v107, rfl, ho0, hb⟩; refine ⟨_, rfl, ?_⟩; have n0_ := Aside0.mk (Kd.R_elder' (rch HO104) (Kd.R_base ho0) hb); have n1_ := Aside0.mk (Kd.R_lower (Kd.R_new' ho0 (Kd.R_lt (rch HO104))) (below_size (bel HB))); have n2_ := Aside0.mk (below_step (bel HB) hb); clear HO104; clear HB; have HO104 := n0_; have HO108 := n1_; have HB := n2_; clear n0_ n1_ n2_; (try clear hb); (try clear hb2); (try clear hk); (try clear hi); (try clear ho0)))
  (try simp only [Act.put, List.setIfInBounds_toArray, List.set_cons_zero, List.set_cons_succ])
  go_cut [32] (fun v32 wc => ∃ (kq : Nat) (x32_4 : Bool), v32 = .bool x32_4 ∧ Aside0 (laws_FnExactLayersOf.j0 kq a0 t101 t102 t105 x32_4 = some r) ∧ Aside0 (kq ≤ k) ∧ Aside0 (Kd.R (Kd.int .i64) 3 wc w.heap.size (fun k_ => some k_ ≠ (v107 : Value).ownBlock) v103 t101) ∧ Aside0 (Kd.R (Kd.int .i64) 3 wc w.heap.size (fun k_ => some k_ ≠ (v103 : Value).ownBlock) v107 t105) ∧ Aside0 (Below w.heap.size w wc))
  case first =>
   have H := HC5.out
   clear HC5
   replace H := Option.bind_eq_some_iff.mp H
   obtain ⟨t109, A80, H⟩ := H
   replace H : (if t109 = true then (laws_FnExactLayersOf.j0 k a0 t101 t102 t105 (t106 != t102)) else (laws_FnExactLayersOf.j0 k a0 t101 t102 t105 true)) = some r := H
   have A8 := Aside0.mk A80
   clear A80
   by_cases c9 : t109 = true
   ·subst c9
    have H1 : (laws_FnExactLayersOf.j0 k a0 t101 t102 t105 (t106 != t102)) = some r := by rw [if_pos rfl] at H; exact H
    clear H
    have H := H1
    clear H1
    have H' := Aside0.mk H
    clear H
    obtain ⟨Ao10, co10, eo10⟩ := Kd.R_slice HO108.out
    subst eo10
    obtain ⟨Ao11, co11, eo11⟩ := Kd.R_slice HO104.out
    subst eo11
    go_wp2_with (first | ((with_reducible refine gate_callee (f := 13) rfl ?_); refine gcall (some 26) Tryz.func13 #[.slice Ao10 t105.length co10, .slice Ao11 t101.length co11] rfl ?_; (with_reducible refine (laws_eqIntS.calls k _ _ t105 _ _ t101 true _ ?side1 ?side2 ?side3 ?side4 A8.out).mono ?_); (case side1 => repeat (first | exact (Kd.R_reads' HO108.out).2.2 | (with_reducible refine Kd.C_alloc ?_ _) | (with_reducible refine Kd.C_drewN ?_ _) | (with_reducible refine Kd.C_drew ?_))); (case side2 => exact (Kd.R_reads' HO108.out).2.1); (case side3 => repeat (first | exact (Kd.R_reads' HO104.out).2.2 | (with_reducible refine Kd.C_alloc ?_ _) | (with_reducible refine Kd.C_drewN ?_ _) | (with_reducible refine Kd.C_drew ?_))); (case side4 => exact (Kd.R_reads' HO104.out).2.1); rintro e w' ⟨rfl, ⟨nd, rfl⟩⟩; refine ⟨_, rfl, ?_⟩))
    go_meet
    case rel => exact ⟨_, ((t106 != t102)), (by first | rfl | (simp; done) | (simp [*]; done)), H', ⟨by first | omega | exact Nat.le_refl _⟩, ⟨by (with_reducible repeat (first | apply Kd.R_alloc | apply Kd.R_drewN | apply Kd.R_drew)); (first | exact Kd.R_mono HO104.out (fun _ hk => hk.2) | exact HO104.out | exact R_any HO104.out)⟩, ⟨by (with_reducible repeat (first | apply Kd.R_alloc | apply Kd.R_drewN | apply Kd.R_drew)); (first | exact Kd.R_mono HO108.out (fun _ hk => hk.2) | exact HO108.out | exact R_any HO108.out)⟩, ⟨bel HB⟩⟩
   ·replace c9 := Bool.eq_false_iff.mpr c9
    subst c9
    have H1 : (laws_FnExactLayersOf.j0 k a0 t101 t102 t105 true) = some r := by rw [if_neg (show ¬ (false = true) by decide)] at H; exact H
    clear H
    have H := H1
    clear H1
    have H' := Aside0.mk H
    clear H
    obtain ⟨Ao12, co12, eo12⟩ := Kd.R_slice HO108.out
    subst eo12
    obtain ⟨Ao13, co13, eo13⟩ := Kd.R_slice HO104.out
    subst eo13
    go_wp2_with (first | ((with_reducible refine gate_callee (f := 13) rfl ?_); refine gcall (some 26) Tryz.func13 #[.slice Ao12 t105.length co12, .slice Ao13 t101.length co13] rfl ?_; (with_reducible refine (laws_eqIntS.calls k _ _ t105 _ _ t101 false _ ?side1 ?side2 ?side3 ?side4 A8.out).mono ?_); (case side1 => repeat (first | exact (Kd.R_reads' HO108.out).2.2 | (with_reducible refine Kd.C_alloc ?_ _) | (with_reducible refine Kd.C_drewN ?_ _) | (with_reducible refine Kd.C_drew ?_))); (case side2 => exact (Kd.R_reads' HO108.out).2.1); (case side3 => repeat (first | exact (Kd.R_reads' HO104.out).2.2 | (with_reducible refine Kd.C_alloc ?_ _) | (with_reducible refine Kd.C_drewN ?_ _) | (with_reducible refine Kd.C_drew ?_))); (case side4 => exact (Kd.R_reads' HO104.out).2.1); rintro e w' ⟨rfl, ⟨nd, rfl⟩⟩; refine ⟨_, rfl, ?_⟩))
    go_meet
    case rel => exact ⟨_, (true), (by first | rfl | (simp; done) | (simp [*]; done)), H', ⟨by first | omega | exact Nat.le_refl _⟩, ⟨by (with_reducible repeat (first | apply Kd.R_alloc | apply Kd.R_drewN | apply Kd.R_drew)); (first | exact Kd.R_mono HO104.out (fun _ hk => hk.2) | exact HO104.out | exact R_any HO104.out)⟩, ⟨by (with_reducible repeat (first | apply Kd.R_alloc | apply Kd.R_drewN | apply Kd.R_drew)); (first | exact Kd.R_mono HO108.out (fun _ hk => hk.2) | exact HO108.out | exact R_any HO108.out)⟩, ⟨bel HB⟩⟩
  case rest =>
   clear HC5
   try clear c1
   try clear c2
   try clear c2b0
   try clear c2b0y
   try clear c2b1
   try clear p2
   try clear c3
   try clear c9
   try clear c11
   try clear c12
   try clear c13
   obtain ⟨kq, x32_4, rfl, HA, HJ4, HO_3, HO_5, HB⟩ := hcut
   cases kq with
   | zero => exact absurd HA.out (by simp [laws_FnExactLayersOf.j0])
   | succ kj4 =>
    have H := HA.out
    clear HA
    simp only [laws_FnExactLayersOf.j0] at H
    by_cases c14 : x32_4 = true
    ·subst c14
     have H1 : (some false) = some r := by rw [if_pos rfl] at H; exact H
     clear H
     have H := H1
     clear H1
     obtain rfl := Option.some.inj H
     go_wp2
     go_ret
     exact ⟨by first | rfl | (simp [errW_none, errW_some] <;> rfl) | (simp [*, errW_none, errW_some] <;> rfl), bel HB⟩
    ·replace c14 := Bool.eq_false_iff.mpr c14
     subst c14
     have H1 : ((laws_markIntS.f kj4 t105 1).bind fun bt110 => ((laws_heldIntS.f kj4 bt110.2 1).bind fun t112 => (if t112 < 0 then (some false) else (if t112 = bt110.1 then ((impl_LayersOf.f kj4 a0).bind fun bt113 => ((laws_eqIntS.f kj4 bt113.1 t101).bind fun t117 => (if t117 = true then (laws_FnExactLayersOf.j1 kj4 bt110.2 bt110.1 (bt113.2 != t102)) else (laws_FnExactLayersOf.j1 kj4 bt110.2 bt110.1 true)))) else (some false))))) = some r := by rw [if_neg (show ¬ (false = true) by decide)] at H; exact H
     clear H
     have H := H1
     clear H1
     replace H := Option.bind_eq_some_iff.mp H
     obtain ⟨⟨t110, t111⟩, A150, H⟩ := H
     replace H : ((laws_heldIntS.f kj4 t111 1).bind fun t112 => (if t112 < 0 then (some false) else (if t112 = t110 then ((impl_LayersOf.f kj4 a0).bind fun bt113 => ((laws_eqIntS.f kj4 bt113.1 t101).bind fun t117 => (if t117 = true then (laws_FnExactLayersOf.j1 kj4 t111 t110 (bt113.2 != t102)) else (laws_FnExactLayersOf.j1 kj4 t111 t110 true)))) else (some false)))) = some r := H
     have A15 := Aside0.mk A150
     clear A150
     replace H := Option.bind_eq_some_iff.mp H
     obtain ⟨t112, A160, H⟩ := H
     replace H : (if t112 < 0 then (some false) else (if t112 = t110 then ((impl_LayersOf.f kj4 a0).bind fun bt113 => ((laws_eqIntS.f kj4 bt113.1 t101).bind fun t117 => (if t117 = true then (laws_FnExactLayersOf.j1 kj4 t111 t110 (bt113.2 != t102)) else (laws_FnExactLayersOf.j1 kj4 t111 t110 true)))) else (some false))) = some r := H
     have A16 := Aside0.mk A160
     clear A160
     by_cases c17 : t112 < 0
     ·rw [if_pos c17] at H
      have c17b0 : decide (t112 < 0) = true := decide_eq_true c17
      clear c17
      obtain rfl := Option.some.inj H
      obtain ⟨Ao18, co18, eo18⟩ := Kd.R_slice HO_5.out
      subst eo18
      go_wp2_with (first | ((with_reducible refine gate_callee (f := 14) rfl ?_); refine gcall (some 35) Tryz.func14 #[.slice Ao18 t105.length co18, .int .i64 1] rfl ?_; (with_reducible refine (laws_markIntS.calls kj4 (fun k_ => some k_ = (.slice Ao18 t105.length co18 : Value).ownBlock) (.slice Ao18 t105.length co18) t105 1 t110 t111 w _ ?side1 ?side2 A15.out).mono ?_); (case side1 => repeat (first | (with_reducible first | exact HB.out | apply below_alloc | apply pw_below_drewN | apply below_drew1) | exact HB.out)); (case side2 => exact Kd.R_tight rfl HO_5.out); rintro e w19 ⟨rfl, hy0, hb, hkp⟩; refine ⟨_, rfl, ?_⟩; have n0_ := Aside0.mk (Kd.R_mono (ok' := fun k_ => some k_ ≠ (.slice Ao18 t105.length co18 : Value).ownBlock) (Kd.R_keptB (HO_3.out) hkp (fun k_ hk_ hs_ => (hk_) hs_)) (fun k_ hk_ => hk_.1)); have n1_ := Aside0.mk (Kd.R_reok rfl hy0 (fun k_ e_ => HO_5.out.1 k_ e_)); have n2_ := Aside0.mk (hb); clear HO_3; clear HO_5; clear HB; have HO_3 := n0_; have HO_5 := n1_; have HB := n2_; clear n0_ n1_ n2_; (try clear hb); (try clear hkp); (try clear hy0)) | ((with_reducible refine gate_callee (f := 15) rfl ?_); refine goesL_ (some 38) rfl rfl Tryz.func15 (by kernel_rfl) rfl #[.slice Ao18 t111.length co18, .int .i64 1] rfl (by (try simp only [List.map_toArray, List.map_cons, List.map_nil]); first | done | (rw [show t111.length = t105.length from (Kd.R_reads' HO_5.out).1.symm] <;> rfl) | rfl | (simp only [List.length_drop, List.length_take]; rfl)) ?_; (with_reducible refine (laws_heldIntS.calls kj4 _ _ t111 1 t112 _ ?side1 ?side2 A16.out).mono ?_); (case side1 => repeat (first | exact (Kd.R_reads' HO_5.out).2.2 | (with_reducible refine Kd.C_alloc ?_ _) | (with_reducible refine Kd.C_drewN ?_ _) | (with_reducible refine Kd.C_drew ?_))); (case side2 => rw [show t111.length = t105.length from (Kd.R_reads' HO_5.out).1.symm]; exact (Kd.R_reads' HO_5.out).2.1); rintro e w' ⟨rfl, ⟨nd, rfl⟩⟩; refine ⟨_, rfl, ?_⟩))
      go_ret
      exact ⟨by first | rfl | (simp [errW_none, errW_some] <;> rfl) | (simp [*, errW_none, errW_some] <;> rfl), bel HB⟩
     ·rw [if_neg c17] at H
      have c17b0 : decide (t112 < 0) = false := decide_eq_false c17
      clear c17
      by_cases c20 : t112 = t110
      ·rw [if_pos c20] at H
       have c20b0 : (t112 == t110) = true := beq_iff_eq.mpr c20
       have c20b1 : (t112 != t110) = false := bne_eq_false_iff_eq.mpr c20
       clear c20
       replace H := Option.bind_eq_some_iff.mp H
       obtain ⟨⟨t113, t114⟩, A210, H⟩ := H
       replace H : ((laws_eqIntS.f kj4 t113 t101).bind fun t117 => (if t117 = true then (laws_FnExactLayersOf.j1 kj4 t111 t110 (t114 != t102)) else (laws_FnExactLayersOf.j1 kj4 t111 t110 true))) = some r := H
       have A21 := Aside0.mk A210
       clear A210
       have HC22 := Aside0.mk H
       clear H
       obtain ⟨Ao23, co23, eo23⟩ := Kd.R_slice HO_5.out
       subst eo23
       go_upto_region 16 with (first | ((with_reducible refine gate_callee (f := 14) rfl ?_); refine gcall (some 35) Tryz.func14 #[.slice Ao23 t105.length co23, .int .i64 1] rfl ?_; (with_reducible refine (laws_markIntS.calls kj4 (fun k_ => some k_ = (.slice Ao23 t105.length co23 : Value).ownBlock) (.slice Ao23 t105.length co23) t105 1 t110 t111 w _ ?side1 ?side2 A15.out).mono ?_); (case side1 => repeat (first | (with_reducible first | exact HB.out | apply below_alloc | apply pw_below_drewN | apply below_drew1) | exact HB.out)); (case side2 => exact Kd.R_tight rfl HO_5.out); rintro e w24 ⟨rfl, hy0, hb, hkp⟩; refine ⟨_, rfl, ?_⟩; have n0_ := Aside0.mk (Kd.R_mono (ok' := fun k_ => some k_ ≠ (.slice Ao23 t105.length co23 : Value).ownBlock) (Kd.R_keptB (HO_3.out) hkp (fun k_ hk_ hs_ => (hk_) hs_)) (fun k_ hk_ => hk_.1)); have n1_ := Aside0.mk (Kd.R_reok rfl hy0 (fun k_ e_ => HO_5.out.1 k_ e_)); have n2_ := Aside0.mk (hb); clear HO_3; clear HO_5; clear HB; have HO_3 := n0_; have HO_5 := n1_; have HB := n2_; clear n0_ n1_ n2_; (try clear hb); (try clear hkp); (try clear hy0)) | ((with_reducible refine gate_callee (f := 15) rfl ?_); refine goesL_ (some 38) rfl rfl Tryz.func15 (by kernel_rfl) rfl #[.slice Ao23 t111.length co23, .int .i64 1] rfl (by (try simp only [List.map_toArray, List.map_cons, List.map_nil]); first | done | (rw [show t111.length = t105.length from (Kd.R_reads' HO_5.out).1.symm] <;> rfl) | rfl | (simp only [List.length_drop, List.length_take]; rfl)) ?_; (with_reducible refine (laws_heldIntS.calls kj4 _ _ t111 1 t112 _ ?side1 ?side2 A16.out).mono ?_); (case side1 => repeat (first | exact (Kd.R_reads' HO_5.out).2.2 | (with_reducible refine Kd.C_alloc ?_ _) | (with_reducible refine Kd.C_drewN ?_ _) | (with_reducible refine Kd.C_drew ?_))); (case side2 => rw [show t111.length = t105.length from (Kd.R_reads' HO_5.out).1.symm]; exact (Kd.R_reads' HO_5.out).2.1); rintro e w' ⟨rfl, ⟨nd, rfl⟩⟩; refine ⟨_, rfl, ?_⟩) | ((with_reducible refine gate_callee (f := 12) rfl ?_); refine gcall (some 46) Tryz.func12 #[.string a0] rfl ?_; (with_reducible refine (impl_LayersOf.calls kj4 a0 t113 t114 _ ?side1 A21.out).mono ?_); (case side1 => (refine GoodW.below HG.out ?_); exact bel HB); rintro e w25 ⟨v115, rfl, ho0, hb⟩; refine ⟨_, rfl, ?_⟩; have n0_ := Aside0.mk (Kd.R_elder' (rch HO_3) (Kd.R_base ho0) hb); have n1_ := Aside0.mk (Kd.R_elder' (rch HO_5) (Kd.R_base ho0) hb); have n2_ := Aside0.mk (Kd.R_lower (Kd.R_new' (Kd.R_new' ho0 (Kd.R_lt (rch HO_3))) (Kd.R_lt (rch HO_5))) (below_size (bel HB))); have n3_ := Aside0.mk (below_step (bel HB) hb); clear HO_3; clear HO_5; clear HB; have HO_3 := n0_; have HO_5 := n1_; have HO116 := n2_; have HB := n3_; clear n0_ n1_ n2_ n3_; (try clear hb); (try clear hb2); (try clear hk); (try clear hi); (try clear ho0)))
       (try simp only [Act.put, List.setIfInBounds_toArray, List.set_cons_zero, List.set_cons_succ])
       go_cut [57] (fun v57 wc => ∃ (kq : Nat) (x57_21 : Bool), v57 = .bool x57_21 ∧ Aside0 (laws_FnExactLayersOf.j1 kq t111 t110 x57_21 = some r) ∧ Aside0 (kq ≤ kj4) ∧ Aside0 (Kd.R (Kd.int .i64) 3 wc w.heap.size (fun _ => True) (.slice Ao23 t105.length co23) t111) ∧ Aside0 (Below w.heap.size w wc))
       case first =>
        have H := HC22.out
        clear HC22
        replace H := Option.bind_eq_some_iff.mp H
        obtain ⟨t117, A260, H⟩ := H
        replace H : (if t117 = true then (laws_FnExactLayersOf.j1 kj4 t111 t110 (t114 != t102)) else (laws_FnExactLayersOf.j1 kj4 t111 t110 true)) = some r := H
        have A26 := Aside0.mk A260
        clear A260
        by_cases c27 : t117 = true
        ·subst c27
         have H1 : (laws_FnExactLayersOf.j1 kj4 t111 t110 (t114 != t102)) = some r := by rw [if_pos rfl] at H; exact H
         clear H
         have H := H1
         clear H1
         have H' := Aside0.mk H
         clear H
         obtain ⟨Ao28, co28, eo28⟩ := Kd.R_slice HO116.out
         subst eo28
         obtain ⟨Ao29, co29, eo29⟩ := Kd.R_slice HO_3.out
         subst eo29
         go_wp2_with (first | ((with_reducible refine gate_callee (f := 13) rfl ?_); refine gcall (some 51) Tryz.func13 #[.slice Ao28 t113.length co28, .slice Ao29 t101.length co29] rfl ?_; (with_reducible refine (laws_eqIntS.calls kj4 _ _ t113 _ _ t101 true _ ?side1 ?side2 ?side3 ?side4 A26.out).mono ?_); (case side1 => repeat (first | exact (Kd.R_reads' HO116.out).2.2 | (with_reducible refine Kd.C_alloc ?_ _) | (with_reducible refine Kd.C_drewN ?_ _) | (with_reducible refine Kd.C_drew ?_))); (case side2 => exact (Kd.R_reads' HO116.out).2.1); (case side3 => repeat (first | exact (Kd.R_reads' HO_3.out).2.2 | (with_reducible refine Kd.C_alloc ?_ _) | (with_reducible refine Kd.C_drewN ?_ _) | (with_reducible refine Kd.C_drew ?_))); (case side4 => exact (Kd.R_reads' HO_3.out).2.1); rintro e w' ⟨rfl, ⟨nd, rfl⟩⟩; refine ⟨_, rfl, ?_⟩))
         go_meet
         case rel => exact ⟨_, ((t114 != t102)), (by first | rfl | (simp; done) | (simp [*]; done)), H', ⟨by have := HJ4.out; first | omega | exact Nat.le_refl _⟩, ⟨by (with_reducible repeat (first | apply Kd.R_alloc | apply Kd.R_drewN | apply Kd.R_drew)); exact Kd.R_mono HO_5.out (fun _ hk => trivial)⟩, ⟨bel HB⟩⟩
        ·replace c27 := Bool.eq_false_iff.mpr c27
         subst c27
         have H1 : (laws_FnExactLayersOf.j1 kj4 t111 t110 true) = some r := by rw [if_neg (show ¬ (false = true) by decide)] at H; exact H
         clear H
         have H := H1
         clear H1
         have H' := Aside0.mk H
         clear H
         obtain ⟨Ao30, co30, eo30⟩ := Kd.R_slice HO116.out
         subst eo30
         obtain ⟨Ao31, co31, eo31⟩ := Kd.R_slice HO_3.out
         subst eo31
         go_wp2_with (first | ((with_reducible refine gate_callee (f := 13) rfl ?_); refine gcall (some 51) Tryz.func13 #[.slice Ao30 t113.length co30, .slice Ao31 t101.length co31] rfl ?_; (with_reducible refine (laws_eqIntS.calls kj4 _ _ t113 _ _ t101 false _ ?side1 ?side2 ?side3 ?side4 A26.out).mono ?_); (case side1 => repeat (first | exact (Kd.R_reads' HO116.out).2.2 | (with_reducible refine Kd.C_alloc ?_ _) | (with_reducible refine Kd.C_drewN ?_ _) | (with_reducible refine Kd.C_drew ?_))); (case side2 => exact (Kd.R_reads' HO116.out).2.1); (case side3 => repeat (first | exact (Kd.R_reads' HO_3.out).2.2 | (with_reducible refine Kd.C_alloc ?_ _) | (with_reducible refine Kd.C_drewN ?_ _) | (with_reducible refine Kd.C_drew ?_))); (case side4 => exact (Kd.R_reads' HO_3.out).2.1); rintro e w' ⟨rfl, ⟨nd, rfl⟩⟩; refine ⟨_, rfl, ?_⟩))
         go_meet
         case rel => exact ⟨_, (true), (by first | rfl | (simp; done) | (simp [*]; done)), H', ⟨by have := HJ4.out; first | omega | exact Nat.le_refl _⟩, ⟨by (with_reducible repeat (first | apply Kd.R_alloc | apply Kd.R_drewN | apply Kd.R_drew)); exact Kd.R_mono HO_5.out (fun _ hk => trivial)⟩, ⟨bel HB⟩⟩
       case rest =>
        clear HC22
        try clear c1
        try clear c2
        try clear c2b0
        try clear c2b0y
        try clear c2b1
        try clear p2
        try clear c3
        try clear c9
        try clear c11
        try clear c12
        try clear c13
        try clear c14
        try clear c15
        try clear c17
        try clear c17b0
        try clear c17b0y
        try clear c20
        try clear c20b0
        try clear c20b0y
        try clear c20b1
        try clear c27
        try clear p2
        obtain ⟨kq, x57_21, rfl, HA, HJ21, HO_5, HB⟩ := hcut
        have hl5_21 := (Kd.R_reads' HO_5.out).1
        rw [hl5_21] at HO_5
        (try simp only [hl5_21])
        cases kq with
        | zero => exact absurd HA.out (by simp [laws_FnExactLayersOf.j1])
        | succ kj21 =>
         have H := HA.out
         clear HA
         simp only [laws_FnExactLayersOf.j1] at H
         by_cases c32 : x57_21 = true
         ·subst c32
          have H1 : (some false) = some r := by rw [if_pos rfl] at H; exact H
          clear H
          have H := H1
          clear H1
          obtain rfl := Option.some.inj H
          go_wp2
          go_ret
          exact ⟨by first | rfl | (simp [errW_none, errW_some] <;> rfl) | (simp [*, errW_none, errW_some] <;> rfl), bel HB⟩
         ·replace c32 := Bool.eq_false_iff.mpr c32
          subst c32
          have H1 : ((laws_heldIntS.f kj21 t111 1).bind fun t118 => (if t118 < 0 then (some false) else (if t118 = t110 then (some true) else (some false)))) = some r := by rw [if_neg (show ¬ (false = true) by decide)] at H; exact H
          clear H
          have H := H1
          clear H1
          replace H := Option.bind_eq_some_iff.mp H
          obtain ⟨t118, A330, H⟩ := H
          replace H : (if t118 < 0 then (some false) else (if t118 = t110 then (some true) else (some false))) = some r := H
          have A33 := Aside0.mk A330
          clear A330
          by_cases c34 : t118 < 0
          ·rw [if_pos c34] at H
           have c34b0 : decide (t118 < 0) = true := decide_eq_true c34
           clear c34
           obtain rfl := Option.some.inj H
           go_wp2_with (first | ((with_reducible refine gate_callee (f := 15) rfl ?_); refine gcall (some 60) Tryz.func15 #[.slice Ao23 t111.length co23, .int .i64 1] rfl ?_; (with_reducible refine (laws_heldIntS.calls kj21 _ _ t111 1 t118 _ ?side1 ?side2 A33.out).mono ?_); (case side1 => repeat (first | exact (Kd.R_reads' HO_5.out).2.2 | (with_reducible refine Kd.C_alloc ?_ _) | (with_reducible refine Kd.C_drewN ?_ _) | (with_reducible refine Kd.C_drew ?_))); (case side2 => exact (Kd.R_reads' HO_5.out).2.1); rintro e w' ⟨rfl, ⟨nd, rfl⟩⟩; refine ⟨_, rfl, ?_⟩))
           go_ret
           exact ⟨by first | rfl | (simp [errW_none, errW_some] <;> rfl) | (simp [*, errW_none, errW_some] <;> rfl), bel HB⟩
          ·rw [if_neg c34] at H
           have c34b0 : decide (t118 < 0) = false := decide_eq_false c34
           clear c34
           by_cases c35 : t118 = t110
           ·rw [if_pos c35] at H
            have c35b0 : (t118 == t110) = true := beq_iff_eq.mpr c35
            have c35b1 : (t118 != t110) = false := bne_eq_false_iff_eq.mpr c35
            clear c35
            obtain rfl := Option.some.inj H
            go_wp2_with (first | ((with_reducible refine gate_callee (f := 15) rfl ?_); refine gcall (some 60) Tryz.func15 #[.slice Ao23 t111.length co23, .int .i64 1] rfl ?_; (with_reducible refine (laws_heldIntS.calls kj21 _ _ t111 1 t118 _ ?side1 ?side2 A33.out).mono ?_); (case side1 => repeat (first | exact (Kd.R_reads' HO_5.out).2.2 | (with_reducible refine Kd.C_alloc ?_ _) | (with_reducible refine Kd.C_drewN ?_ _) | (with_reducible refine Kd.C_drew ?_))); (case side2 => exact (Kd.R_reads' HO_5.out).2.1); rintro e w' ⟨rfl, ⟨nd, rfl⟩⟩; refine ⟨_, rfl, ?_⟩))
            go_ret
            exact ⟨by first | rfl | (simp [errW_none, errW_some] <;> rfl) | (simp [*, errW_none, errW_some] <;> rfl), bel HB⟩
           ·rw [if_neg c35] at H
            have c35b0 : (t118 == t110) = false := beq_eq_false_iff_ne.mpr c35
            have c35b1 : (t118 != t110) = true := bne_iff_ne.mpr c35
            obtain rfl := Option.some.inj H
            go_wp2_with (first | ((with_reducible refine gate_callee (f := 15) rfl ?_); refine gcall (some 60) Tryz.func15 #[.slice Ao23 t111.length co23, .int .i64 1] rfl ?_; (with_reducible refine (laws_heldIntS.calls kj21 _ _ t111 1 t118 _ ?side1 ?side2 A33.out).mono ?_); (case side1 => repeat (first | exact (Kd.R_reads' HO_5.out).2.2 | (with_reducible refine Kd.C_alloc ?_ _) | (with_reducible refine Kd.C_drewN ?_ _) | (with_reducible refine Kd.C_drew ?_))); (case side2 => exact (Kd.R_reads' HO_5.out).2.1); rintro e w' ⟨rfl, ⟨nd, rfl⟩⟩; refine ⟨_, rfl, ?_⟩))
            go_ret
            exact ⟨by first | rfl | (simp [errW_none, errW_some] <;> rfl) | (simp [*, errW_none, errW_some] <;> rfl), bel HB⟩
      ·rw [if_neg c20] at H
       have c20b0 : (t112 == t110) = false := beq_eq_false_iff_ne.mpr c20
       have c20b1 : (t112 != t110) = true := bne_iff_ne.mpr c20
       obtain rfl := Option.some.inj H
       obtain ⟨Ao36, co36, eo36⟩ := Kd.R_slice HO_5.out
       subst eo36
       go_wp2_with (first | ((with_reducible refine gate_callee (f := 14) rfl ?_); refine gcall (some 35) Tryz.func14 #[.slice Ao36 t105.length co36, .int .i64 1] rfl ?_; (with_reducible refine (laws_markIntS.calls kj4 (fun k_ => some k_ = (.slice Ao36 t105.length co36 : Value).ownBlock) (.slice Ao36 t105.length co36) t105 1 t110 t111 w _ ?side1 ?side2 A15.out).mono ?_); (case side1 => repeat (first | (with_reducible first | exact HB.out | apply below_alloc | apply pw_below_drewN | apply below_drew1) | exact HB.out)); (case side2 => exact Kd.R_tight rfl HO_5.out); rintro e w37 ⟨rfl, hy0, hb, hkp⟩; refine ⟨_, rfl, ?_⟩; have n0_ := Aside0.mk (Kd.R_mono (ok' := fun k_ => some k_ ≠ (.slice Ao36 t105.length co36 : Value).ownBlock) (Kd.R_keptB (HO_3.out) hkp (fun k_ hk_ hs_ => (hk_) hs_)) (fun k_ hk_ => hk_.1)); have n1_ := Aside0.mk (Kd.R_reok rfl hy0 (fun k_ e_ => HO_5.out.1 k_ e_)); have n2_ := Aside0.mk (hb); clear HO_3; clear HO_5; clear HB; have HO_3 := n0_; have HO_5 := n1_; have HB := n2_; clear n0_ n1_ n2_; (try clear hb); (try clear hkp); (try clear hy0)) | ((with_reducible refine gate_callee (f := 15) rfl ?_); refine goesL_ (some 38) rfl rfl Tryz.func15 (by kernel_rfl) rfl #[.slice Ao36 t111.length co36, .int .i64 1] rfl (by (try simp only [List.map_toArray, List.map_cons, List.map_nil]); first | done | (rw [show t111.length = t105.length from (Kd.R_reads' HO_5.out).1.symm] <;> rfl) | rfl | (simp only [List.length_drop, List.length_take]; rfl)) ?_; (with_reducible refine (laws_heldIntS.calls kj4 _ _ t111 1 t112 _ ?side1 ?side2 A16.out).mono ?_); (case side1 => repeat (first | exact (Kd.R_reads' HO_5.out).2.2 | (with_reducible refine Kd.C_alloc ?_ _) | (with_reducible refine Kd.C_drewN ?_ _) | (with_reducible refine Kd.C_drew ?_))); (case side2 => rw [show t111.length = t105.length from (Kd.R_reads' HO_5.out).1.symm]; exact (Kd.R_reads' HO_5.out).2.1); rintro e w' ⟨rfl, ⟨nd, rfl⟩⟩; refine ⟨_, rfl, ?_⟩))
       go_ret
       exact ⟨by first | rfl | (simp [errW_none, errW_some] <;> rfl) | (simp [*, errW_none, errW_some] <;> rfl), bel HB⟩
end Go.Proofs.YtchkmhbngbgjnaaGreatDoor.Q
end
section
namespace Go.Proofs.YtchkmhbngbgjnaaGreatDoor.Q
set_option linter.unusedSectionVars false
open Go.RowKit Go.Proofs.YtchkmhbngbgjnaaGreatDoorW.PrintWords Go.Proofs.YtchkmhbngbgjnaaGreatDoorW.PrintLast Go.Proofs.YtchkmhbngbgjnaaGreatDoorW.PrintMore
open Classical
def mx (F : List Nat) : Nat := F.foldl (fun m q => max m (q + 1)) 0
theorem mx_snoc (F : List Nat) (q : Nat) : mx (F ++ [q]) = max (mx F) (q + 1) := by
 unfold mx
 rw [List.foldl_append]
 rfl
theorem mx_fold_ge : ∀ (F : List Nat) (m : Nat), m ≤ F.foldl (fun m q => max m (q + 1)) m
 | [], m => Nat.le_refl _
 | q :: F, m => Nat.le_trans (Nat.le_max_left _ _) (mx_fold_ge F _)
theorem mx_fold_mem : ∀ (F : List Nat) (m : Nat), ∀ q ∈ F, q < F.foldl (fun m q => max m (q + 1)) m
 | [], m, q, h => by simp at h
 | a :: F, m, q, h => by
  rcases List.mem_cons.1 h with rfl | h
  ·exact Nat.lt_of_lt_of_le (Nat.lt_of_lt_of_le (Nat.lt_succ_self q) (Nat.le_max_right m (q + 1))) (mx_fold_ge F _)
  ·exact mx_fold_mem F _ q h
def cnt (F : List Nat) (q : Nat) : Int := ((F.count q : Nat) : Int)
def layC (F : List Nat) : List Int := vals (mx F) (cnt F)
theorem cnt_snoc (F : List Nat) (q : Nat) : cnt (F ++ [q]) = fun i => if i = q then cnt F q + 1 else cnt F i := by
 funext i
 unfold cnt
 rw [List.count_append, List.count_singleton]
 by_cases e : i = q
 ·rw [if_pos e, e]
  simp
 ·rw [if_neg e, show (q == i) = false from beq_eq_false_iff_ne.2 fun e2 => e e2.symm, if_neg Bool.false_ne_true]
  rfl
theorem cnt_le (F : List Nat) (q : Nat) : 0 ≤ cnt F q ∧ cnt F q ≤ (F.length : Int) := by
 have := List.count_le_length (a := q) (l := F)
 unfold cnt
 omega
theorem cnt_wrap (F : List Nat) (q : Nat) (h : F.length ≤ 300) : wrap64 (cnt F q + 1) = cnt F q + 1 := by
 have h1 := cnt_le F q
 exact w64 (by omega) (by omega)
theorem layZ_layC (F : List Nat) (q : Nat) (h : F.length ≤ 300) : layZ (layC F) q = layC (F ++ [q]) := by
 have h0 : ∀ i, mx F ≤ i → cnt F i = 0 := fun i hi => by
  unfold cnt
  rw [List.count_eq_zero.2 fun hm => absurd (mx_fold_mem F 0 i hm) (by show ¬ i < mx F; omega)]
  rfl
 unfold layZ layC
 rw [vals_len, vals_pad _ _ _ h0, show mx F + (q + 1 - mx F) = max (mx F) (q + 1) by omega, ← mx_snoc]
 have hq : q < mx (F ++ [q]) := by rw [mx_snoc]; omega
 have hg : (vals (mx (F ++ [q])) (cnt F)).getD q 0 = cnt F q := by
  have := vals_rd (cnt F) hq
  unfold rd at this
  rw [Int.toNat_natCast] at this
  exact this
 rw [hg, cnt_wrap F q h, vals_set _ hq, cnt_snoc]
theorem laysZ_layC : ∀ (L : List Zs) (G F : List Nat), L.map Zs.far = G.map (fun n => ((n : Nat) : Int)) → (∀ g ∈ G, g ≤ 1000) → F.length + G.length ≤ 300 → mx F ≤ 1001 → laysZ L (layC F) = some (layC (F ++ G))
 | [], [], F, _, _, _, _ => by
  rw [List.append_nil]
  rfl
 | [], g :: G, F, h, _, _, _ => by simp at h
 | z :: L, [], F, h, _, _, _ => by simp at h
 | z :: L, g :: G, F, h, hg, hl, hm => by
  rw [List.map_cons, List.map_cons] at h
  injection h with h1 h2
  have hg0 := hg g (by simp)
  rw [List.length_cons] at hl
  have ih := laysZ_layC L G (F ++ [g]) h2 (fun x hx => hg x (by simp [hx])) (by rw [List.length_append, List.length_singleton]; omega) (by rw [mx_snoc]; omega)
  rw [laysZ, if_pos ⟨by omega, by omega, by unfold layC; rw [vals_len]; exact hm⟩, h1, Int.toNat_natCast, layZ_layC F g (by omega), ih, List.append_assoc]
  rfl
def farN (L : List RS) : List Nat := L.map BSt.far
theorem fold_mx : ∀ (G : List Nat) (m : Nat), ((G.map (fun n => ((n : Nat) : Int))).foldl max ((m : Nat) : Int)) + 1 = ((G.foldl (fun m q => max m (q + 1)) (m + 1) : Nat) : Int)
 | [], m => by
  show ((m : Nat) : Int) + 1 = ((m + 1 : Nat) : Int)
  omega
 | g :: G, m => by
  rw [List.map_cons, List.foldl_cons, List.foldl_cons, show max ((m : Nat) : Int) ((g : Nat) : Int) = ((max m g : Nat) : Int) by omega, fold_mx G (max m g), show max m g + 1 = max (m + 1) (g + 1) by omega]
theorem maxOf_mx (G : List Nat) (h : 0 < G.length) : Lib.maxOf (G.map (fun n => ((n : Nat) : Int))) + 1 = ((mx G : Nat) : Int) := by
 cases G with
 | nil => simp at h
 | cons g G =>
  show (((g : Nat) : Int) :: G.map (fun n => ((n : Nat) : Int))).foldl max ((g : Nat) : Int) + 1 = ((G.foldl (fun m q => max m (q + 1)) (max 0 (g + 1)) : Nat) : Int)
  rw [List.foldl_cons, show max ((g : Nat) : Int) ((g : Nat) : Int) = ((g : Nat) : Int) by omega, fold_mx G g, show max 0 (g + 1) = g + 1 by omega]
def LayersOfR (t : ByteArray) : List Int × Bool := match found t with
 | none => ([], false)
 | some p => (layC (farN p.1), true)
section
variable {t : ByteArray} {w h : Nat} {cs : List Int} {p : List RS × List (List Nat)} (H : Found t w h cs p)
include H
theorem Found.farN_le : ∀ g ∈ farN p.1, g < 300 := fun g hg => by
 unfold farN at hg
 obtain ⟨s, hs, rfl⟩ := List.mem_map.1 hg
 obtain ⟨i, hi⟩ := List.getElem?_of_mem hs
 exact (H.far hi).2
theorem Found.mx_le : mx (farN p.1) ≤ 300 := by
 have key : ∀ (G : List Nat) (m : Nat), m ≤ 300 → (∀ g ∈ G, g < 300) → G.foldl (fun m q => max m (q + 1)) m ≤ 300 := by
  intro G
  induction G with
  | nil => exact fun m hm _ => hm
  | cons g G ih =>
   intro m hm hg
   have := hg g (by simp)
   exact ih (max m (g + 1)) (by omega) fun x hx => hg x (by simp [hx])
 exact key _ 0 (by omega) H.farN_le
theorem lay_l0 : ∀ (m i : Nat), i + m = p.1.length → Ev (fun k => impl_LayersOf.l0 k (vals (mx (farN p.1)) (cnt ((farN p.1).take i))) (fars p.1) ((fars p.1).length : Int) (i : Int)) (layC (farN p.1), true)
 | 0, i, hi => by
  have hfl : (fars p.1).length = p.1.length := by unfold fars; rw [List.length_map]
  have hnl : (farN p.1).length = p.1.length := by unfold farN; rw [List.length_map]
  rw [show (farN p.1).take i = farN p.1 from List.take_of_length_le (by omega)]
  refine Ev.step (Ev.const rfl) fun k => ?_
  rw [impl_LayersOf.l0, if_neg (by rw [hfl]; omega)]
  rfl
 | m + 1, i, hi => by
  have hfl : (fars p.1).length = p.1.length := by unfold fars; rw [List.length_map]
  have hnl : (farN p.1).length = p.1.length := by unfold farN; rw [List.length_map]
  have hlen := H.len
  obtain ⟨s, hs⟩ : ∃ s, p.1[i]? = some s := ⟨_, List.getElem?_eq_getElem (by omega)⟩
  have hg : (farN p.1)[i]? = some s.far := by
   unfold farN
   rw [List.getElem?_map, hs]
   rfl
  obtain ⟨hil, e⟩ := List.getElem?_eq_some_iff.1 hg
  have hlt : s.far < mx (farN p.1) := mx_fold_mem _ 0 s.far (List.mem_of_getElem? hg)
  have ih := lay_l0 m (i + 1) (by omega)
  rw [List.take_succ_eq_append_getElem hil, e, cnt_snoc, ← wr1 i (by omega)] at ih
  refine Ev.step ih fun k => ?_
  rw [impl_LayersOf.l0, if_pos (by rw [hfl]; omega), if_pos (by omega), if_pos (by rw [hfl]; omega), rd_fars hs, if_pos (by omega), if_pos (by rw [vals_len]; omega), vals_rd _ hlt, cnt_wrap _ _ (by rw [List.length_take]; omega), Int.toNat_natCast, vals_set _ hlt]
end
theorem LayersOfR_len (t : ByteArray) : (LayersOfR t).1.length ≤ 1000000 := by
 unfold LayersOfR
 rcases found_cases t with ⟨h1, h2⟩ | ⟨w, h, cs, p, H⟩
 ·rw [found_none h1]
  exact Nat.zero_le _
 ·rw [H.found]
  show (layC (farN p.1)).length ≤ 1000000
  unfold layC
  rw [vals_len]
  have := H.mx_le
  omega
theorem specLayersOf_ev (t : ByteArray) : Ev (fun k => spec_LayersOf.f k t) (LayersOfR t) := by
 refine Ev.bind (f := fun _ (a : List Zs × Bool) => (laysZ a.1 []).bind fun out => some (out, a.2)) (reAll_ev t) (Ev.const ?_)
 unfold LayersOfR
 rcases found_cases t with ⟨h1, h2⟩ | ⟨w, h, cs, p, H⟩
 ·rw [h1, found_none h1]
  rfl
 ·rw [H.all, H.found]
  have hlen := H.len
  have hz : (foundZ w h p).map Zs.far = (farN p.1).map (fun n => ((n : Nat) : Int)) := by
   refine List.ext_getElem? fun i => ?_
   unfold foundZ farN
   rw [List.getElem?_map, List.getElem?_map, List.getElem?_map, zL_at]
   cases p.1[i]? <;> rfl
  have hl := laysZ_layC (foundZ w h p) (farN p.1) [] hz (fun g hg => by have := H.farN_le g hg; omega) (by unfold farN; rw [List.length_map]; simp; omega) (by show 0 ≤ 1001; omega)
  rw [List.nil_append] at hl
  show (laysZ (foundZ w h p) (layC [])).bind _ = _
  rw [hl]
  rfl
theorem implLayersOf_ev (t : ByteArray) (ht : t.size ≤ 1048576) : Ev (fun k => impl_LayersOf.f k t) (LayersOfR t) := by
 refine Ev.bind (f := fun k (bt101 : ReR) => (if bt101.2.2.2.2 = true then ((slices_Max_int.f bt101.2.1).bind fun t115 => (if 0 ≤ (wrap64 (t115 + 1)) then (if (wrap64 (t115 + 1) : Int).toNat ≤ 35184372088832 then (impl_LayersOf.l0 k (List.replicate (wrap64 (t115 + 1) : Int).toNat 0) bt101.2.1 (bt101.2.1.length : Int) 0) else (none)) else (none))) else (some (([] : List Int), false)))) (reachOf_ev t ht) ?_
 unfold LayersOfR
 rcases found_cases t with ⟨h1, h2⟩ | ⟨w, h, cs, p, H⟩
 ·rw [h2, found_none h1]
  exact Ev.congr (Ev.const rfl) fun k => if_neg Bool.false_ne_true
 ·rw [H.prog, H.found]
  have hlen := H.len
  have hpos := H.pos
  have hmx := H.mx_le
  have hfl : (fars p.1).length = p.1.length := by unfold fars; rw [List.length_map]
  have hnl : (farN p.1).length = p.1.length := by unfold farN; rw [List.length_map]
  have hfe : fars p.1 = (farN p.1).map (fun n => ((n : Nat) : Int)) := by
   unfold fars farN
   rw [List.map_map]
   rfl
  have hm1 : Lib.maxOf (fars p.1) + 1 = ((mx (farN p.1) : Nat) : Int) := by rw [hfe]; exact maxOf_mx _ (by omega)
  have hmax : slices_Max_int.f (fars p.1) = some (Lib.maxOf (fars p.1)) := by
   unfold slices_Max_int.f
   rw [if_pos (by rw [hfl]; omega)]
  have hrep : List.replicate (mx (farN p.1)) (0 : Int) = vals (mx (farN p.1)) (cnt ((farN p.1).take 0)) := by
   unfold vals
   rw [List.take_zero]
   exact (List.eq_replicate_iff.2 ⟨by simp, fun x hx => by obtain ⟨i, _, rfl⟩ := List.mem_map.1 hx; rfl⟩).symm
  have hw : wrap64 (Lib.maxOf (fars p.1) + 1) = ((mx (farN p.1) : Nat) : Int) := by rw [hm1]; exact w64 (by omega) (by omega)
  refine Ev.congr (lay_l0 H p.1.length 0 (by omega)) fun k => ?_
  show (if true = true then ((slices_Max_int.f (fars p.1)).bind _) else _) = _
  rw [if_pos rfl, hmax, Option.bind_some, hw, if_pos (by omega), Int.toNat_natCast, if_pos (by omega), hrep]
  rfl
theorem lawLayersOf_ev (t : ByteArray) : Ev (fun k => laws_FnExactLayersOf.f k t) true := by
 by_cases ht : t.size ≤ 1048576
 case neg =>
  refine Ev.congr (Ev.const (o := some true) rfl) fun k => ?_
  unfold laws_FnExactLayersOf.f
  exact if_pos (by omega)
 have hsp := specLayersOf_ev t
 have him := implLayersOf_ev t ht
 have hl := LayersOfR_len t
 obtain ⟨l, hl1, hl2, hmk⟩ := mark_ev (LayersOfR t).1 1 (by omega) (by omega) (by omega)
 have hhd := held_ev l 1 (by omega) (by omega) (by omega) (by rw [hl1]; exact hl2)
 have heq := eqInts_ev (LayersOfR t).1 (by omega)
 have e0 : (1 : Int) + l.length = 1 + (LayersOfR t).1.length := by rw [hl1]
 rw [e0] at hhd
 have c1 : ¬ (1 : Int) + (LayersOfR t).1.length < 0 := by omega
 have hj1 : Ev (fun k => laws_FnExactLayersOf.j1 k l (1 + (LayersOfR t).1.length) false) true := by
  refine Ev.step (Ev.bind (f := fun _ t118 => (if t118 < 0 then (some false) else (if t118 = (1 : Int) + (LayersOfR t).1.length then (some true) else (some false)))) hhd (Ev.const ?_)) fun k => ?_
  ·rw [if_neg c1, if_pos rfl]
  ·rw [laws_FnExactLayersOf.j1, if_neg (by decide)]
 have hj0 : Ev (fun k => laws_FnExactLayersOf.j0 k t (LayersOfR t).1 (LayersOfR t).2 (LayersOfR t).1 false) true := by
  refine Ev.step (Ev.bind (f := fun k bt110 => ((laws_heldIntS.f k bt110.2 1).bind fun t112 => (if t112 < 0 then (some false) else (if t112 = bt110.1 then ((impl_LayersOf.f k t).bind fun bt113 => ((laws_eqIntS.f k bt113.1 (LayersOfR t).1).bind fun t117 => (if t117 = true then (laws_FnExactLayersOf.j1 k bt110.2 bt110.1 (bt113.2 != (LayersOfR t).2)) else (laws_FnExactLayersOf.j1 k bt110.2 bt110.1 true)))) else (some false))))) hmk ?_) fun k => ?_
  ·refine Ev.bind (f := fun k t112 => (if t112 < 0 then (some false) else (if t112 = (1 : Int) + (LayersOfR t).1.length then ((impl_LayersOf.f k t).bind fun bt113 => ((laws_eqIntS.f k bt113.1 (LayersOfR t).1).bind fun t117 => (if t117 = true then (laws_FnExactLayersOf.j1 k l (1 + (LayersOfR t).1.length) (bt113.2 != (LayersOfR t).2)) else (laws_FnExactLayersOf.j1 k l (1 + (LayersOfR t).1.length) true)))) else (some false)))) hhd ?_
   refine Ev.congr (Ev.bind (f := fun k bt113 => ((laws_eqIntS.f k bt113.1 (LayersOfR t).1).bind fun t117 => (if t117 = true then (laws_FnExactLayersOf.j1 k l (1 + (LayersOfR t).1.length) (bt113.2 != (LayersOfR t).2)) else (laws_FnExactLayersOf.j1 k l (1 + (LayersOfR t).1.length) true)))) him ?_) fun k => ?_
   ·refine Ev.bind (f := fun k t117 => (if t117 = true then (laws_FnExactLayersOf.j1 k l (1 + (LayersOfR t).1.length) ((LayersOfR t).2 != (LayersOfR t).2)) else (laws_FnExactLayersOf.j1 k l (1 + (LayersOfR t).1.length) true))) heq ?_
    refine Ev.congr hj1 fun k => ?_
    rw [if_pos rfl, bne_self_eq_false]
   ·rw [if_neg c1, if_pos rfl]
  ·rw [laws_FnExactLayersOf.j0, if_neg (by decide)]
 refine Ev.congr (Ev.bind (f := fun k (bt101 : List Int × Bool) => ((impl_LayersOf.f k t).bind fun bt105 => ((laws_eqIntS.f k bt105.1 bt101.1).bind fun t109 => (if t109 = true then (laws_FnExactLayersOf.j0 k t bt101.1 bt101.2 bt105.1 (bt105.2 != bt101.2)) else (laws_FnExactLayersOf.j0 k t bt101.1 bt101.2 bt105.1 true))))) hsp ?_) fun k => by unfold laws_FnExactLayersOf.f; rw [if_neg (by omega)]
 refine Ev.bind (f := fun k bt105 => ((laws_eqIntS.f k bt105.1 (LayersOfR t).1).bind fun t109 => (if t109 = true then (laws_FnExactLayersOf.j0 k t (LayersOfR t).1 (LayersOfR t).2 bt105.1 (bt105.2 != (LayersOfR t).2)) else (laws_FnExactLayersOf.j0 k t (LayersOfR t).1 (LayersOfR t).2 bt105.1 true)))) him ?_
 refine Ev.bind (f := fun k t109 => (if t109 = true then (laws_FnExactLayersOf.j0 k t (LayersOfR t).1 (LayersOfR t).2 (LayersOfR t).1 ((LayersOfR t).2 != (LayersOfR t).2)) else (laws_FnExactLayersOf.j0 k t (LayersOfR t).1 (LayersOfR t).2 (LayersOfR t).1 true))) heq ?_
 refine Ev.congr hj0 fun k => ?_
 rw [if_pos rfl, bne_self_eq_false]
end Go.Proofs.YtchkmhbngbgjnaaGreatDoor.Q
end
