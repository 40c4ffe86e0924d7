/- Texts of this claim, joined. -/
import Derived.Test.YtchkmhbngbgjnaaDoorJCountReached04
import Derived.Test.YtchkmhbngbgjnaaDoorJCountReached01
import Derived.Test.YtchkmhbngbgjnaaDoorJCountReached06
import Derived.Test.YtchkmhbngbgjnaaDoorJCountReached05
set_option linter.unusedVariables false
set_option linter.unusedSimpArgs false
set_option linter.unusedSectionVars false
section
namespace Go.Proofs.YtchkmhbngbgjnaaDoor.Q
set_option linter.unusedSectionVars false
set_option linter.unusedSimpArgs false
open Go.RowKit Go.Proofs.YtchkmhbngbgjnaaDoorW.PrintWords Go.Proofs.YtchkmhbngbgjnaaDoorW.PrintLast Go.Proofs.YtchkmhbngbgjnaaDoorW.PrintMore
theorem drop_zAt {L : List Zs} {i : Nat} (h : i < L.length) : L.drop i = zAt L i :: L.drop (i + 1) ∧ L[i]? = some (zAt L i) := by
 have e : zAt L i = L[i] := by
  unfold zAt
  rw [List.getD_eq_getElem?_getD, List.getElem?_eq_getElem h]
  rfl
 rw [e]
 exact ⟨List.drop_eq_getElem_cons h, List.getElem?_eq_getElem h⟩
set_option maxHeartbeats 4000000 in
set_option maxRecDepth 100000 in
theorem spec_rePlace.calls (A : Option Addr) (n c : Nat) (L : List Zs) (tx : ByteArray) (w : World) (hn : n = L.length) (hL : StC w A L) (hl : L.length ≤ 1000) (hc : n ≤ c) :
  Calls Tryd.prog 11 #[.slice A n c, .string tx] w fun e w' => e = .returned (.int .i64 (zPlace L tx 0)) ∧ Drawn0 w w' := by
 subst hn
 have HL := Aside0.mk hL
 have HC := Aside0.mk hc
 have HN := Aside0.mk hl
 clear hL hc hl
 go_enter Tryd.func11, Tryd.ntmps11
 go_wp2
 go_loopg [9] L.length (fun gg v9 w' => ∃ i : Nat, v9 = .int .i64 i ∧ Aside0 ((i ≤ L.length ∧ L.length - i ≤ gg) ∧ zPlace (L.drop i) tx i = zPlace L tx 0) ∧ Drawn0 w w')
 case atStart => exact ⟨0, by first | rfl | (simp; done), ⟨⟨Nat.zero_le _, Nat.le_refl _⟩, rfl⟩, Drawn0.refl _⟩
 case round =>
  obtain ⟨i, rfl, HA, ⟨m1, rfl⟩⟩ := hrel
  by_cases hli : i < L.length
  ·have c2 : decide ((i : Int) < (L.length : Int)) = true := decide_eq_true (by omega)
   have p1 : (0 ≤ (i : Int)) = True := eq_true (by omega)
   have p2 : ((i : Int) < (L.length : Int)) = True := eq_true (by omega)
   obtain ⟨hd, hat⟩ := drop_zAt hli
   obtain ⟨ad, g, Ag, An, cg, cn, e1, h2, h3, _, _⟩ := HL.out.at' i (zAt L i) hat
   cases e1
   have hz := HA.out.2
   rw [hd, zPlace] at hz
   have HGK := Aside0.mk (show L.length - i ≤ gk ∧ i < L.length from ⟨HA.out.1.2, hli⟩)
   have z3 : w.cell? ⟨g, 3, none⟩ = some (.string (zAt L i).text) := (blk_cell h3 3).trans rfl
   clear h3 hd hat hli HA
   generalize zAt L i = z at z3 hz
   by_cases e : z.text.toList = tx.toList
   ·rw [if_pos e] at hz
    have c6b0 : (z.text.toList == tx.toList) = true := beq_iff_eq.mpr e
    have c6b1 : (z.text.toList != tx.toList) = false := bne_eq_false_iff_eq.mpr e
    have HZ := Aside0.mk hz
    clear e hz
    go_wp2
    go_ret
    exact ⟨congrArg (fun x => Ending.returned (Value.int .i64 x)) HZ.out, by repeat (first | exact Drawn0.refl _ | apply Drawn0.step)⟩
   ·rw [if_neg e] at hz
    have c6b0 : (z.text.toList == tx.toList) = false := beq_eq_false_iff_ne.mpr e
    have c6b1 : (z.text.toList != tx.toList) = true := bne_iff_ne.mpr e
    have HZ := Aside0.mk hz
    clear e hz
    go_wp2
    go_roundg (L.length - (i + 1))
    case measure => have := HGK.out; omega
    case rel => exact ⟨i + 1, by first | rfl | rw [wrap64_nat i (by have := HGK.out; have := HN.out; omega)] | simp, ⟨⟨by have := HGK.out; omega, Nat.le_refl _⟩, HZ.out⟩, by repeat (first | exact Drawn0.refl _ | apply Drawn0.step)⟩
  ·obtain rfl : i = L.length := by have := HA.out.1.1; omega
   have c2 : decide ((L.length : Int) < (L.length : Int)) = false := decide_eq_false (by omega)
   have hz := HA.out.2
   rw [List.drop_length] at hz
   have HZ := Aside0.mk hz
   clear hz HA hli
   go_wp2
   go_ret
   exact ⟨congrArg (fun x => Ending.returned (Value.int .i64 x)) HZ.out, by repeat (first | exact Drawn0.refl _ | apply Drawn0.step)⟩
end Go.Proofs.YtchkmhbngbgjnaaDoor.Q
end
section
namespace Go.Proofs.YtchkmhbngbgjnaaDoor.Q
set_option linter.unusedSectionVars false
set_option linter.unusedSimpArgs false
open Go.RowKit Go.Proofs.YtchkmhbngbgjnaaDoorW.PrintWords Go.Proofs.YtchkmhbngbgjnaaDoorW.PrintLast Go.Proofs.YtchkmhbngbgjnaaDoorW.PrintMore
theorem zAt_map {M : List Zm} {i : Nat} {m : Zm} (h : M[i]? = some m) : zAt (M.map Zm.z) i = m.z := by
 unfold zAt
 rw [List.getD_eq_getElem?_getD, List.getElem?_map, h]
 rfl
theorem SB.made {w1 w2 : World} {v : Value} {g : Nat} {vg : Value} {z : Zs} {B : Nat} (hz : z.next = []) (hg : B ≤ g) (hb : w1.heap[g]? = some (.cells (zCells z vg (.slice none 0 0)) 42 (0, 0))) (hr : Kd.R (Kd.int .u8) 5 w1 B (fun _ => True) vg z.cs) (hb2 : Below w1.heap.size w1 w2) (hv : Kd.R ptK 40 w2 B (fun _ => True) v [g]) : SB w2 B v [⟨g, vg, .slice none 0 0, z⟩] where
 row := hv
 ok := fun m hm => by
  rw [List.mem_singleton.1 hm]
  exact okZ.below ⟨hg, hb, hr, by rw [hz]; exact Kd.R_nil _ _ _ _ _⟩ hb2
 nodup := by simp
 apart := List.pairwise_singleton _ _
theorem SB.more {w10 w1 : World} {B n : Nat} {v v1 vg : Value} {M : List Zm} {z : Zs} (h : SB w10 B v M) (hB : B ≤ w10.heap.size) (hz : z.next = []) (hgr : Kd.R (Kd.int .u8) 5 w10 B (fun _ => True) vg z.cs) (hg : ((w10.drewN n).alloc (.cells (zCells z vg (.slice none 0 0)) 42)).grownBy w1 v.ownBlock)
  (hr : Kd.R ptK 40 w1 B (fun _ => True) v1 (M.map Zm.g ++ [w10.heap.size])) : SB w1 B v1 (M ++ [⟨w10.heap.size, vg, .slice none 0 0, z⟩]) := by
 have hb : Below w10.heap.size w10 ((w10.drewN n).alloc (.cells (zCells z vg (.slice none 0 0)) 42)) := below_alloc (pw_below_drewN (Below.refl _ w10) n) _
 refine (h.below hb).add ⟨hB, World.alloc_heap_new (w10.drewN n) _, Kd.R_below hgr hb, by rw [hz]; exact Kd.R_nil _ _ _ _ _⟩ (fun x hx => ?_) rfl hg (by rw [List.map_append]; exact hr)
 have := blk_lt (h.ok x hx).blk
 show x.g ≠ w10.heap.size
 omega
theorem alloc_then {w w1 : World} {o : Obj} (hb : Below (w.alloc o).heap.size (w.alloc o) w1) : Below w.heap.size w w1 ∧ w1.heap[w.heap.size]? = some o := by
 have h0 := below_alloc (Below.refl _ w) o
 have h1 := World.alloc_heap_new w o
 exact ⟨below_then h0 h0.size hb, (hb.block _ (blk_lt h1)).trans h1⟩
theorem SB.drewn {w : World} {B : Nat} {v : Value} {M : List Zm} (h : SB w B v M) (n : Nat) : SB (w.drewN n) B v M := h.below (pw_below_drewN (Below.refl _ _) n)
theorem SB.word {w : World} {B : Nat} {v : Value} {M : List Zm} (h : SB w B v M) {j : Nat} {m : Zm} (hm : M[j]? = some m) (x : Int) : SB (w.setCell ⟨m.g, 5, none⟩ (.int .i64 x)) B v (M.set j { m with z := { m.z with words := x } }) :=
 h.put hm 5 _ rfl rfl ⟨(h.at hm).base, blk_put (h.at hm).blk 5 _ rfl, Kd.R_set (h.at hm).grid (h.at hm).blk (by decide) 5 _, Kd.R_set (h.at hm).next (h.at hm).blk (by decide) 5 _⟩
theorem map_z_set (M : List Zm) (j : Nat) (m : Zm) : (M.set j m).map Zm.z = (M.map Zm.z).set j m.z := List.map_set ..
theorem touch_yes {M : List Zm} {i j : Nat} {m mj mi : Zm} (hj : M[j]? = some mj) (hi : M[i]? = some m) (he : mj.z.far = wrap64 (m.z.far + 1)) {M2 : List Zm} (h2 : M2 = M.set j { mj with z := { mj.z with words := wrap64 (mj.z.words + m.z.words) } }) (hi2 : M2[i]? = some mi) (v : Value) : zTouch (M.map Zm.z) i j = (M2.set i { mi with vn := v, z := { mi.z with next := mi.z.next ++ [(j : Int)] } }).map Zm.z := by
 unfold zTouch zWords zNext
 rw [zAt_map hj, zAt_map hi, if_pos he, map_z_set, ← map_z_set M j { mj with z := { mj.z with words := wrap64 (mj.z.words + m.z.words) } }, ← h2, zAt_map hi2]
theorem touch_no {M : List Zm} {i j : Nat} {m mj : Zm} (hj : M[j]? = some mj) (hi : M[i]? = some m) (he : ¬ mj.z.far = wrap64 (m.z.far + 1)) (v : Value) : zTouch (M.map Zm.z) i j = (M.set i { m with vn := v, z := { m.z with next := m.z.next ++ [(j : Int)] } }).map Zm.z := by
 unfold zTouch zWords zNext
 rw [zAt_map hj, zAt_map hi, if_neg he, map_z_set, zAt_map hi]
theorem zPlace_lt : ∀ (L : List Zs) (t : ByteArray) (k : Nat), 0 ≤ zPlace L t k → zPlace L t k < ((k + L.length : Nat) : Int)
 | [], t, k, h => by
  rw [zPlace] at h
  omega
 | z :: L, t, k, h => by
  rw [zPlace] at h ⊢
  rw [List.length_cons]
  by_cases e : z.text.toList = t.toList
  ·rw [if_pos e]
   omega
  ·rw [if_neg e] at h ⊢
   have := zPlace_lt L t (k + 1) h
   omega
theorem set_at {M : List Zm} {i j : Nat} {m mj mj' : Zm} (hi : M[i]? = some m) (hj : M[j]? = some mj) (hg : mj'.g = mj.g) (hn : mj'.z.next = mj.z.next) : ∃ mi, (M.set j mj')[i]? = some mi ∧ mi.g = m.g ∧ mi.z.next = m.z.next := by
 rw [List.getElem?_set]
 by_cases e : j = i
 ·subst e
  rw [if_pos rfl, if_pos (List.getElem?_eq_some_iff.1 hj).1]
  rw [hi] at hj
  cases hj
  exact ⟨mj', rfl, hg, hn⟩
 ·rw [if_neg e]
  exact ⟨m, hi, rfl, rfl⟩
set_option maxHeartbeats 16000000 in
set_option maxRecDepth 100000 in
theorem spec_reAll.calls (k : Nat) (a0 : ByteArray) (r1 : List Zs) (r2 : Bool) (w : World) (h : spec_reAll.f k a0 = some (r1, r2)) :
  Calls Tryd.prog 6 #[.string a0] w fun e w' => ∃ (A : Option Addr) (c : Nat), e = .returned (.tuple #[.slice A r1.length c, .bool r2]) ∧ r1.length ≤ c ∧ r1.length ≤ 300 ∧ StC w' A r1 ∧ Below w.heap.size w w' := by
 unfold spec_reAll.f at h
 obtain ⟨⟨gw, gh, gc, gok⟩, ht, h⟩ := Option.bind_eq_some_iff.1 h
 have HT := Aside0.mk ht
 clear ht
 cases gok with
 | false =>
  rw [if_neg Bool.false_ne_true] at h
  simp only [Option.some.injEq, Prod.mk.injEq] at h
  obtain ⟨rfl, rfl⟩ := h
  go_enter Tryd.func6, Tryd.ntmps6
  go_wp2_with (first
   | (go_at_call 8; refine (spec_tyRead.calls k a0 gw gh gc false _ HT.out).mono ?_; rintro e w1 ⟨v1, rfl, ho1, hb1⟩; (have HB1 := Aside0.mk hb1); (obtain ⟨A1, c1, e1⟩ := Kd.R_slice ho1); subst e1; clear ho1 hb1)
   | ((with_reducible refine gate_dst (N := 4) rfl ?_); refine box_event ?hg (N := 4) ?hd (cs := #[.int .i64 0, .int .i64 0, .slice none 0 0]) (t := 37) ?hr ?_; (case hd => rfl); (case hg => rfl); (case hr => first | (go_simp; done) | (go_simp; rfl)); intro go hg w5 hbox hb; (have HB5 := Aside0.mk (below_then HB1.out HB1.out.size hb)); (have HGE := Aside0.mk (show w.heap.size ≤ go by rw [hg]; exact HB1.out.size)); (have f0 := blk_frozen hbox 0); (have f1 := blk_frozen hbox 1); (have f2 := blk_frozen hbox 2); (have y0 := (blk_cell hbox 0).trans rfl); (have y1 := (blk_cell hbox 1).trans rfl); (have y2 := (blk_cell hbox 2).trans rfl); clear hbox hb hg))
  go_ret2
  exact ⟨none, 0, rfl, Nat.le_refl _, Nat.zero_le _, ⟨fun i z hz => by simp at hz⟩, below_set (below_set (below_set HB5.out HGE.out) HGE.out) HGE.out⟩
 | true =>
  rw [if_pos rfl] at h
  have HA0 := Aside0.mk h
  clear h
  go_enter Tryd.func6, Tryd.ntmps6
  go_wp2_with (first
   | (go_at_call 8; refine (spec_tyRead.calls k a0 gw gh gc true _ HT.out).mono ?_; rintro e w1 ⟨v1, rfl, ho1, hb1⟩; (have HB1 := Aside0.mk hb1); (obtain ⟨A1, c1, e1⟩ := Kd.R_slice ho1); subst e1; (have HO1 := Aside0.mk ho1); clear ho1 hb1)
   | ((with_reducible refine gate_dst (N := 4) rfl ?_); refine box_event ?hg (N := 4) ?hd (cs := #[.int .i64 0, .int .i64 0, .slice none 0 0]) (t := 37) ?hr ?_; (case hd => rfl); (case hg => rfl); (case hr => first | (go_simp; done) | (go_simp; rfl)); intro go hg w5 hbox hb; (have HB5 := Aside0.mk (below_then HB1.out HB1.out.size hb)); (have HGE := Aside0.mk (show w.heap.size ≤ go by rw [hg]; exact HB1.out.size)); (have HO5 := Aside0.mk (Kd.R_below HO1.out hb)); (have HU := Aside0.mk hbox); (have f0 := blk_frozen HU.out 0); (have f1 := blk_frozen HU.out 1); (have f2 := blk_frozen HU.out 2); (have y0 := (blk_cell HU.out 0).trans rfl); (have y1 := (blk_cell HU.out 1).trans rfl); (have y2 := (blk_cell HU.out 2).trans rfl); clear hbox hb hg HO1)
   | ((with_reducible refine gate_store (t := 37) (p := 4) rfl ?_); refine store_event (t := 37) (p := 4) (v := ?vo) (w1 := (((w5.setCell ⟨go, 0, none⟩ (.int .i64 gw)).setCell ⟨go, 1, none⟩ (.int .i64 gh)).setCell ⟨go, 2, none⟩ (.slice A1 gc.length c1))) ?hg ?ho ?hn ?hr ?_; (case ho => rfl); (case hg => rfl); (case hn => rfl); (case hr => first | (go_simp; done) | (go_simp; rfl)); intro w6 hw; (have HB6 := Aside0.mk (show Below w.heap.size w w6 by rw [hw]; exact below_set (below_set (below_set HB5.out HGE.out) HGE.out) HGE.out)); (have HU6 := Aside0.mk (show w6.heap[go]? = some (.cells #[.int .i64 gw, .int .i64 gh, .slice A1 gc.length c1] 37 (0, 0)) by rw [hw]; refine blk_put (cs := #[.int .i64 gw, .int .i64 gh, .slice none 0 0]) ?_ 2 _ rfl; refine blk_put (cs := #[.int .i64 gw, .int .i64 0, .slice none 0 0]) ?_ 1 _ rfl; refine blk_put (cs := #[.int .i64 0, .int .i64 0, .slice none 0 0]) ?_ 0 _ rfl; exact HU.out)); (have HO6 := Aside0.mk (show Kd.R (Kd.int .u8) 5 w6 w.heap.size (fun _ => True) (.slice A1 gc.length c1) gc by rw [hw]; exact R_all (Kd.R_far (p := ⟨go, 2, none⟩) (Kd.R_far (p := ⟨go, 1, none⟩) (Kd.R_far (p := ⟨go, 0, none⟩) (Kd.R_types HO5.out HU.out (by decide)) (fun _ hk => hk.2) (.int .i64 gw)) (fun _ hk => hk.2) (.int .i64 gh)) (fun _ hk => hk.2) (.slice A1 gc.length c1)))); clear hw HB5 HU HO5 y0 y1 y2 f0 f1 f2; (have y0 := (blk_cell HU6.out 0).trans rfl); (have y1 := (blk_cell HU6.out 1).trans rfl); (have y2 := (blk_cell HU6.out 2).trans rfl))
   | ((with_reducible refine gate_dst (N := 23) rfl ?_); refine box_event ?hg (N := 23) ?hd (cs := zCells ⟨gw, gh, gc, a0, 0, 1, -1, 0, []⟩ (.slice A1 gc.length c1) (.slice none 0 0)) (t := 42) ?hr ?_; (case hd => rfl); (case hg => rfl); (case hr => first | (go_simp; done) | (go_simp; rfl)); intro gs hg w7 hbox hb; (have HB7 := Aside0.mk (below_then HB6.out HB6.out.size hb)); (have HGS := Aside0.mk (show w.heap.size ≤ gs by rw [hg]; exact HB6.out.size)); (have HO7 := Aside0.mk (Kd.R_below HO6.out hb)); (have HS7 := Aside0.mk hbox); clear hbox hb hg HO6 HU6 HB6 y0 y1 y2)
   | ((with_reducible refine gate_dst (N := 24) rfl ?_); refine R_litG ptK w.heap.size 40 ?hg (N := 24) ?hd (xs := [gs]) (inner := [.pointer (some ⟨gs, 0, none⟩)]) (ok := fun _ => True) (okp := fun _ => True) ?hr ?hp (fun _ hk => hk) trivial HB7.out HB7.out.size (by simp) ?_; (case hd => rfl); (case hg => first | rfl | decide | (simp [Region.wanted, yielded]; done) | (go_simp; done)); (case hr => first | (go_simp; done) | (go_simp; rfl)); (case hp => exact (Reps.one (show Kd.M ptK _ _ _ gs [.pointer (some ⟨gs, 0, none⟩)] from rfl) (Reps.none _ _))); intro v8 w8 ho8 hb8 hg8 hn8))
  have HS8 := Aside0.mk (SB.made (z := ⟨gw, gh, gc, a0, 0, 1, -1, 0, []⟩) rfl HGS.out HS7.out HO7.out (below_none hg8) (R_all ho8))
  have HB8 := Aside0.mk hb8
  clear ho8 hb8 hg8 hn8 HS7 HO7 HB7
  go_loopg [6, 7] 301 (fun gg v6 v7 wr => ∃ (i : Nat) (vv : Value) (M : List Zm), v6 = vv ∧ v7 = .int .i64 i ∧ Aside0 ((i ≤ M.length ∧ M.length ≤ 300 ∧ 301 - i ≤ gg) ∧ reA k (301 - i) i (M.map Zm.z) = some (r1, r2)) ∧ Aside0 (SB wr w.heap.size vv M) ∧ Aside0 (Below w.heap.size w wr))
  case atStart => exact ⟨0, v8, [⟨gs, .slice A1 gc.length c1, .slice none 0 0, ⟨gw, gh, gc, a0, 0, 1, -1, 0, []⟩⟩], rfl, by first | rfl | (simp; done), ⟨⟨Nat.zero_le _, by simp, Nat.le_refl _⟩, HA0.out⟩, HS8, HB8⟩
  case round =>
   clear HS8 HB8 HA0
   obtain ⟨i, vv, M, rfl, rfl, HA, HS, HB⟩ := hrel
   obtain ⟨AL, cL, eL, hcL, hstL, hptL⟩ := HS.out.read
   by_cases hli : i < M.length
   ·have c2 : decide ((i : Int) < (M.length : Int)) = true := decide_eq_true (by omega)
    have p1 : (0 ≤ (i : Int)) = True := eq_true (by omega)
    have p2 : ((i : Int) < (M.length : Int)) = True := eq_true (by omega)
    have hsp := HA.out.2
    rw [show 301 - i = (300 - i) + 1 by have := HA.out.1; omega, reA, if_pos (by rw [List.length_map]; exact hli)] at hsp
    obtain ⟨m, hm⟩ : ∃ m, M[i]? = some m := ⟨_, List.getElem?_eq_getElem hli⟩
    obtain ⟨ad, e1, h2⟩ := hptL i m hm
    cases e1
    have HSP := Aside0.mk hsp
    have HGK := Aside0.mk (show i < M.length ∧ M.length ≤ 300 ∧ 301 - i ≤ gk from ⟨hli, HA.out.1.2.1, HA.out.1.2.2⟩)
    subst eL
    clear hsp HA hli hstL hptL
    have HGM := Aside0.mk (show ∃ x, M[i]? = some x ∧ x.g = m.g from ⟨m, hm, rfl⟩)
    generalize m.g = gi at h2 HGM
    clear hm
    go_wp2_with fail
    go_loopg [6, 9] 4 (fun gg v6 v9 wr => ∃ (d : Nat) (vv : Value) (M : List Zm), v6 = vv ∧ v9 = .int .i64 d ∧ Aside0 (((d ≤ 4 ∧ 4 - d ≤ gg) ∧ (i < M.length ∧ M.length ≤ 300) ∧ ∃ x, M[i]? = some x ∧ x.g = gi) ∧ reS k (fun L => reA k (300 - i) (i + 1) L) i (4 - d) d (M.map Zm.z) = some (r1, r2)) ∧ Aside0 (SB wr w.heap.size vv M) ∧ Aside0 (Below w.heap.size w wr))
    case atStart => exact ⟨0, _, M, rfl, by first | rfl | (simp; done), ⟨⟨⟨Nat.zero_le _, Nat.le_refl _⟩, ⟨HGK.out.1, HGK.out.2.1⟩, HGM.out⟩, HSP.out⟩, HS, HB⟩
    case round =>
     clear HS HB HSP HGM h2 c2 p1 p2
     obtain ⟨d, vv, M, rfl, rfl, HA, HS, HB⟩ := hrel
     by_cases hd : d < 4
     ·have c3 : decide ((d : Int) < 4) = true := decide_eq_true (by omega)
      obtain ⟨⟨⟨_, hgk⟩, ⟨hil, hml⟩, m, hm, rfl⟩, hsp⟩ := HA.out
      rw [show 4 - d = (3 - d) + 1 by omega, reS, zAt_map hm] at hsp
      split at hsp
      case isFalse => cases hsp
      rename_i hnl
      have HNL0 := Aside0.mk hnl
      clear hnl
      obtain ⟨⟨ow, oh, oc⟩, htl, hsp⟩ := Option.bind_eq_some_iff.1 hsp
      obtain ⟨tx, htx, hsp⟩ := Option.bind_eq_some_iff.1 hsp
      have HTL := Aside0.mk htl
      have HTX := Aside0.mk htx
      have HSP := Aside0.mk hsp
      have HM := Aside0.mk hm
      have HGK2 := Aside0.mk (show (4 - d ≤ gk ∧ d < 4) ∧ i < M.length ∧ M.length ≤ 300 from ⟨⟨hgk, hd⟩, hil, hml⟩)
      obtain ⟨Ag, cg, eg, hcg, hCg⟩ := Kd.R_reads (HS.out.at hm).grid
      have HCG := Aside0.mk (show oc.length ≤ oc.length ∧ m.z.cs.length ≤ cg ∧ Kd.C (Kd.int .u8) wr Ag m.z.cs.length m.z.cs from ⟨Nat.le_refl _, hcg, hCg⟩)
      have y0 : wr.cell? ⟨m.g, 0, none⟩ = some (.int .i64 m.z.w) := (blk_cell (HS.out.at hm).blk 0).trans rfl
      have y1 : wr.cell? ⟨m.g, 1, none⟩ = some (.int .i64 m.z.h) := (blk_cell (HS.out.at hm).blk 1).trans rfl
      have y2 : wr.cell? ⟨m.g, 2, none⟩ = some (.slice Ag m.z.cs.length cg) := by rw [← eg]; exact (blk_cell (HS.out.at hm).blk 2).trans rfl
      clear htl htx hsp hm HA hgk hil hml hcg hCg eg hd
      by_cases hneg : zPlace (M.map Zm.z) tx 0 < 0
      ·have c4 : decide (zPlace (M.map Zm.z) tx 0 < 0) = true := decide_eq_true hneg
       have hsp := HSP.out
       rw [if_pos hneg, List.length_map] at hsp
       by_cases h300 : M.length = 300
       ·have c5 : ((M.length : Int) == 300) = true := beq_iff_eq.mpr (by omega)
        rw [if_pos h300] at hsp
        simp only [Option.some.injEq, Prod.mk.injEq] at hsp
        obtain ⟨rfl, rfl⟩ := hsp
        clear hneg h300 HSP
        go_wp2_with (first
         | (go_at_call 9; refine (spec_tiTilt.calls k m.z.w m.z.h Ag cg m.z.cs d ow oh oc _ HCG.out.2.2 HCG.out.2.1 HTL.out).mono ?_; rintro e w9 ⟨v9, rfl, ho9, hb9⟩; (have HS9 := Aside0.mk (HS.out.below hb9)); (have HB9 := Aside0.mk (below_then HB.out HB.out.size hb9)); (obtain ⟨A9, c9, e9⟩ := Kd.R_slice ho9); subst e9; (have HO9 := Aside0.mk (Kd.R_lower ho9 HB.out.size)); clear ho9 hb9 HS HB HCG y0 y1 y2)
         | (go_at_call 10; refine (spec_tyText.calls k ow oh A9 c9 oc tx _ (Kd.C_below (Kd.R_reads' HO9.out).2.2 (below_alloc (Below.refl _ _) _)) (Kd.R_reads' HO9.out).2.1 HTX.out).mono ?_; rintro e w10 ⟨rfl, hb10⟩; (obtain ⟨hb10, hk10⟩ := alloc_then hb10); (have HU10 := Aside0.mk hk10); (have HGB := Aside0.mk HB9.out.size); clear hk10; (have HS10 := Aside0.mk (HS9.out.below hb10)); (have HB10 := Aside0.mk (below_then HB9.out HB9.out.size hb10)); (have HO10 := Aside0.mk (Kd.R_below HO9.out hb10)); clear hb10 HS9 HB9 HO9; (generalize w9.heap.size = gt at HU10 HGB ⊢); (obtain ⟨A10, c10, e10, hc10, hst10, _⟩ := HS10.out.read); subst e10; (have HST := Aside0.mk hst10); (have HCC := Aside0.mk hc10); clear hst10 hc10)
         | (go_at_call 11; refine (spec_rePlace.calls A10 M.length c10 (M.map Zm.z) tx _ (by rw [List.length_map]) HST.out (by rw [List.length_map]; have := HGK2.out; omega) HCC.out).mono ?_; rintro e w11 ⟨rfl, ⟨m11, rfl⟩⟩))
        go_ret2
        exact ⟨none, 0, rfl, Nat.le_refl _, Nat.zero_le _, ⟨fun i z hz => by simp at hz⟩, pw_below_drewN HB10.out m11⟩
       ·have c5 : ((M.length : Int) == 300) = false := beq_eq_false_iff_ne.mpr (by omega)
        rw [if_neg h300] at hsp
        have HL3 := Aside0.mk h300
        have HNX := Aside0.mk hsp
        clear hneg h300 HSP hsp
        go_wp2_with (first
         | (go_at_call 9; refine (spec_tiTilt.calls k m.z.w m.z.h Ag cg m.z.cs d ow oh oc _ HCG.out.2.2 HCG.out.2.1 HTL.out).mono ?_; rintro e w9 ⟨v9, rfl, ho9, hb9⟩; (have HS9 := Aside0.mk (HS.out.below hb9)); (have HB9 := Aside0.mk (below_then HB.out HB.out.size hb9)); (obtain ⟨A9, c9, e9⟩ := Kd.R_slice ho9); subst e9; (have HO9 := Aside0.mk (Kd.R_lower ho9 HB.out.size)); clear ho9 hb9 HS HB HCG y0 y1 y2)
         | (go_at_call 10; refine (spec_tyText.calls k ow oh A9 c9 oc tx _ (Kd.C_below (Kd.R_reads' HO9.out).2.2 (below_alloc (Below.refl _ _) _)) (Kd.R_reads' HO9.out).2.1 HTX.out).mono ?_; rintro e w10 ⟨rfl, hb10⟩; (obtain ⟨hb10, hk10⟩ := alloc_then hb10); (have HU10 := Aside0.mk hk10); (have HGB := Aside0.mk HB9.out.size); clear hk10; (have HS10 := Aside0.mk (HS9.out.below hb10)); (have HB10 := Aside0.mk (below_then HB9.out HB9.out.size hb10)); (have HO10 := Aside0.mk (Kd.R_below HO9.out hb10)); clear hb10 HS9 HB9 HO9; (generalize w9.heap.size = gt at HU10 HGB ⊢); (obtain ⟨A10, c10, e10, hc10, hst10, _⟩ := HS10.out.read); subst e10; (have HST := Aside0.mk hst10); (have HCC := Aside0.mk hc10); clear hst10 hc10)
         | (go_at_call 11; refine (spec_rePlace.calls A10 M.length c10 (M.map Zm.z) tx _ (by rw [List.length_map]) HST.out (by rw [List.length_map]; have := HGK2.out; omega) HCC.out).mono ?_; rintro e w11 ⟨rfl, ⟨m11, rfl⟩⟩))
        obtain ⟨Agx, cgx, egx, hcgx, hCgx⟩ := Kd.R_reads (HS10.out.at HM.out).grid
        have z0 := (blk_cell HU10.out 0).trans rfl
        have z1 := (blk_cell HU10.out 1).trans rfl
        have z2 := (blk_cell HU10.out 2).trans rfl
        have x4 : w10.cell? ⟨m.g, 4, none⟩ = some (.int .i64 m.z.far) := (blk_cell (HS10.out.at HM.out).blk 4).trans rfl
        clear hcgx hCgx egx
        go_region_law (apply Kd.R_append_step (d := ptK) (w0 := w) (base := w.heap.size) (s := .tmp 57) (x := .tmp 69) (t := 25) (e := 40) (z := .pointer none) (bytes := 8) (v := .slice A10 M.length c10) (xs := M.map Zm.g) (p := w10.heap.size) (cs := [.pointer (some ⟨w10.heap.size, 0, none⟩)]) (ok := fun _ => True) (okp := fun _ => False); (case hw => rfl); (case ho => rfl); (case ht => exact Tryd.underlying25); (case hinfo => kernel_rfl); (case hz => rfl); (case hs0 => decide); (case hb0 => decide); (case hs => rfl); (case hx => exact (congrArg (fun q => Value.slice (some ⟨q, 0, none⟩) 1 1) (World.size_alloc (w10.drewN _) _).symm)); (case hp => rfl); (case hokp => exact fun _ hk => hk.elim); (case hfresh => exact fun _ _ => trivial); (case HO => exact Kd.R_below HS10.out.row (below_alloc (pw_below_drewN (Below.refl _ w10) _) _)); (case HB => exact below_alloc (pw_below_drewN HB10.out _) _); (case hbase => exact (below_alloc (pw_below_drewN HB10.out _) _).size); (case hl => rw [List.length_map]; have := HGK2.out; omega); intro v12 w12 hr12 hb12 hg12 _)
        all_goals
         rw [i64_w] at hg12
         have HS12 := Aside0.mk (SB.more (z := zNew (ow, oh, oc) tx m.z.far i d) HS10.out HB10.out.size rfl HO10.out hg12 hr12)
         have HB12 := Aside0.mk hb12
         clear hr12 hb12 hg12 z0 z1 z2 x4 HU10 HO10 HS10 HB10 HST HCC
         have hmi : (M ++ [(⟨w10.heap.size, .slice A9 oc.length c9, .slice none 0 0, zNew (ow, oh, oc) tx m.z.far i d⟩ : Zm)])[i]? = some m := by rw [List.getElem?_append_left HGK2.out.2.1]; exact HM.out
         have hmj : (M ++ [(⟨w10.heap.size, .slice A9 oc.length c9, .slice none 0 0, zNew (ow, oh, oc) tx m.z.far i d⟩ : Zm)])[M.length]? = some ⟨w10.heap.size, .slice A9 oc.length c9, .slice none 0 0, zNew (ow, oh, oc) tx m.z.far i d⟩ := by simp
         have HMI := Aside0.mk hmi
         have HMJ := Aside0.mk hmj
         have HLT := Aside0.mk (show i < (M ++ [(⟨w10.heap.size, .slice A9 oc.length c9, .slice none 0 0, zNew (ow, oh, oc) tx m.z.far i d⟩ : Zm)]).length ∧ (M ++ [(⟨w10.heap.size, .slice A9 oc.length c9, .slice none 0 0, zNew (ow, oh, oc) tx m.z.far i d⟩ : Zm)]).length ≤ 300 by rw [List.length_append, List.length_singleton]; have := HGK2.out; have := HL3.out; omega)
         have HNY := Aside0.mk (show reS k (fun L => reA k (300 - i) (i + 1) L) i (3 - d) (d + 1) (zTouch ((M ++ [(⟨w10.heap.size, .slice A9 oc.length c9, .slice none 0 0, zNew (ow, oh, oc) tx m.z.far i d⟩ : Zm)]).map Zm.z) i M.length) = some (r1, r2) by rw [List.map_append]; exact HNX.out)
         clear hmi hmj HNX
         generalize (M ++ [(⟨w10.heap.size, .slice A9 oc.length c9, .slice none 0 0, zNew (ow, oh, oc) tx m.z.far i d⟩ : Zm)]) = Mt at HS12 HMI HMJ HLT HNY
         generalize (⟨w10.heap.size, .slice A9 oc.length c9, .slice none 0 0, zNew (ow, oh, oc) tx m.z.far i d⟩ : Zm) = mj at HMJ
         have HJ := Aside0.mk (show M.length ≤ 300 ∧ M.length < Mt.length from ⟨HGK2.out.2.2, (List.getElem?_eq_some_iff.1 HMJ.out).1⟩)
         generalize M.length = j at HMJ HNY HJ ⊢
         obtain ⟨A12, c12, e12, hc12, _, hp12⟩ := HS12.out.read
         have HSL := Aside0.mk (show v12 = .slice A12 Mt.length c12 from e12)
         subst e12
         obtain ⟨ad12, e12, x6⟩ := hp12 j mj HMJ.out
         cases e12
         have q1 : (0 ≤ (j : Int)) = True := eq_true (by omega)
         have q2 : ((j : Int) < (Mt.length : Int)) = True := eq_true (by have := HJ.out; omega)
         have x7 : w12.cell? ⟨mj.g, 4, none⟩ = some (.int .i64 mj.z.far) := (blk_cell (HS12.out.at HMJ.out).blk 4).trans rfl
         have x8 : w12.cell? ⟨m.g, 4, none⟩ = some (.int .i64 m.z.far) := (blk_cell (HS12.out.at HMI.out).blk 4).trans rfl
         have x9 : w12.cell? ⟨mj.g, 5, none⟩ = some (.int .i64 mj.z.words) := (blk_cell (HS12.out.at HMJ.out).blk 5).trans rfl
         have x10 : w12.cell? ⟨m.g, 5, none⟩ = some (.int .i64 m.z.words) := (blk_cell (HS12.out.at HMI.out).blk 5).trans rfl
         have x11 : w12.frozen? ⟨mj.g, 5, none⟩ = false := blk_frozen (HS12.out.at HMJ.out).blk 5
         clear hp12 hc12 HSL
         by_cases hfar : mj.z.far = wrap64 (m.z.far + 1)
         ·have c6 : (mj.z.far == wrap64 (m.z.far + 1)) = true := beq_iff_eq.mpr hfar
          have c7 : (mj.z.far == IntKind.i64.wrap (m.z.far + 1)) = true := by rw [i64_w]; exact c6
          have HFAR := Aside0.mk hfar
          clear hfar
          go_wp2_with fail
          go_quiet (fail)
          go_wp2_with fail
          go_region
          have HS13 := Aside0.mk ((HS12.out.drewn (nq + 1)).word HMJ.out (wrap64 (mj.z.words + m.z.words)))
          have HB13 := Aside0.mk (show Below w.heap.size w ((w12.drewN (nq + 1)).setCell ⟨mj.g, 5, none⟩ (.int .i64 (wrap64 (mj.z.words + m.z.words)))) from below_set (pw_below_drewN HB12.out (nq + 1)) (HS12.out.at HMJ.out).base)
          have HMG := Aside0.mk (show w.heap.size ≤ m.g from (HS12.out.at HMI.out).base)
          obtain ⟨mi, hmi2, hge, hxn⟩ := set_at (mj' := { mj with z := { mj.z with words := wrap64 (mj.z.words + m.z.words) } }) HMI.out HMJ.out rfl rfl
          have HXN := Aside0.mk hxn
          have HNZ := Aside0.mk (show ∀ v, reS k (fun L => reA k (300 - i) (i + 1) L) i (3 - d) (d + 1) (((Mt.set j { mj with z := { mj.z with words := wrap64 (mj.z.words + m.z.words) } }).set i { mi with vn := v, z := { mi.z with next := mi.z.next ++ [(j : Int)] } }).map Zm.z) = some (r1, r2) from fun v => by rw [← touch_yes HMJ.out HMI.out HFAR.out rfl hmi2 v]; exact HNY.out)
          have HLT2 := Aside0.mk (show i < (Mt.set j { mj with z := { mj.z with words := wrap64 (mj.z.words + m.z.words) } }).length ∧ (Mt.set j { mj with z := { mj.z with words := wrap64 (mj.z.words + m.z.words) } }).length ≤ 300 by rw [List.length_set]; exact HLT.out)
          have HMI2 := Aside0.mk hmi2
          have HGE := Aside0.mk hge
          clear hmi2 hge hxn HNY HS12 HB12 x6 x7 x8 x9 x10 x11 HFAR
          generalize (w12.drewN (nq + 1)).setCell ⟨mj.g, 5, none⟩ (.int .i64 (wrap64 (mj.z.words + m.z.words))) = w13 at HS13 HB13 ⊢
          generalize (Mt.set j { mj with z := { mj.z with words := wrap64 (mj.z.words + m.z.words) } }) = M2 at HS13 HMI2 HNZ HLT2
          have HK := Aside0.mk (HS13.out.at HMI2.out)
          obtain ⟨An, cn, en, hcn, _⟩ := Kd.R_reads HK.out.next
          have HR13 := Aside0.mk (show Kd.R (Kd.int .i64) 3 w13 w.heap.size (fun _ => True) (.slice An mi.z.next.length cn) mi.z.next by rw [← en]; exact HK.out.next)
          have HEN := Aside0.mk en
          have HBK := Aside0.mk (show w13.heap[m.g]? = some (.cells (zCells mi.z mi.vg (.slice An mi.z.next.length cn)) 42 (0, 0)) by rw [← en, ← HGE.out]; exact HK.out.blk)
          have HNL := Aside0.mk (show mi.z.next.length ≤ 1000 by rw [HXN.out]; exact HNL0.out)
          clear hcn en HK
          have x12 : w13.cell? ⟨m.g, 8, none⟩ = some (.slice An mi.z.next.length cn) := (blk_cell HBK.out 8).trans rfl
          go_wp2_with (first
           | ((with_reducible refine gate_dst (N := 105) rfl ?_); refine Kd.R_append (Kd.int .i64) (w0 := w) w.heap.size rfl (.tmp 102) (.tmp 104) 29 3 (.int .i64 0) 8 rfl Tryd.underlying29 info3 rfl (by decide) (by omega) (.slice An mi.z.next.length cn) mi.z.next (j : Int) [.int .i64 (j : Int)] (fun _ => True) (fun _ => False) ?h1 ?h2 ?aP (fun _ hk => hk.elim) ?aF ?aO ?aB ?aS ?aL ?_; (case h1 => rfl); (case h2 => rfl); (case aP => exact rfl); (case aB => exact HB13.out); (case aF => exact (fun _ _ => trivial)); (case aO => exact HR13.out); (case aS => exact HB13.out.size); (case aL => have := HNL.out; omega); intro v14 w14 ho14 hb14 hg14 hat14; (obtain ⟨A14, c14, e14⟩ := Kd.R_slice ho14); (generalize hlen14 : (mi.z.next ++ [(j : Int)]).length = n14 at e14); subst e14; (have HB14 := Aside0.mk hb14); (have HBK14 := Aside0.mk (blk_grown HBK.out hg14 (Kd.R_ne HR13.out HBK.out (by decide)))); (have HS15 := Aside0.mk (HS13.out.grow HMI2.out (v1 := .slice A14 n14 c14) (ys := mi.z.next ++ [(j : Int)]) (by rw [HEN.out]; exact hg14) (by rw [HEN.out]; exact hat14) ho14)); clear ho14 hb14 hg14 hat14 x12 hlen14; (have x13 : w14.cell? ⟨m.g, 8, none⟩ = some (.slice An mi.z.next.length cn) := (blk_cell HBK14.out 8).trans rfl); (have f13 := blk_frozen HBK14.out 8)))
          have HS16 := Aside0.mk (show SB (w14.setCell ⟨m.g, 8, none⟩ (.slice A14 n14 c14)) w.heap.size (.slice (some ad12) Mt.length c12) (M2.set i { mi with vn := .slice A14 n14 c14, z := { mi.z with next := mi.z.next ++ [(j : Int)] } }) by rw [← HGE.out]; exact HS15.out)
          have HB15 := Aside0.mk (show Below w.heap.size w (w14.setCell ⟨m.g, 8, none⟩ (.slice A14 n14 c14)) from below_set HB14.out (HMG.out))
          go_roundg (4 - (d + 1))
          case measure => have := HGK2.out; omega
          case rel => exact ⟨d + 1, _, M2.set i { mi with vn := .slice A14 n14 c14, z := { mi.z with next := mi.z.next ++ [(j : Int)] } }, rfl, by first | rfl | rw [wrap64_nat d (by have := HGK2.out; omega)] | simp, ⟨⟨⟨by have := HGK2.out; omega, Nat.le_refl _⟩, by rw [List.length_set]; exact HLT2.out, { mi with vn := .slice A14 n14 c14, z := { mi.z with next := mi.z.next ++ [(j : Int)] } }, by rw [List.getElem?_set, if_pos rfl, if_pos HLT2.out.1], HGE.out⟩, by rw [show 4 - (d + 1) = 3 - d by omega]; exact HNZ.out _⟩, HS16, HB15⟩
         ·have c6 : (mj.z.far == wrap64 (m.z.far + 1)) = false := beq_eq_false_iff_ne.mpr hfar
          have c7 : (mj.z.far == IntKind.i64.wrap (m.z.far + 1)) = false := by rw [i64_w]; exact c6
          have HNZ := Aside0.mk (show ∀ v, reS k (fun L => reA k (300 - i) (i + 1) L) i (3 - d) (d + 1) ((Mt.set i { m with vn := v, z := { m.z with next := m.z.next ++ [(j : Int)] } }).map Zm.z) = some (r1, r2) from fun v => by rw [← touch_no HMJ.out HMI.out hfar v]; exact HNY.out)
          have HMG := Aside0.mk (show w.heap.size ≤ m.g from (HS12.out.at HMI.out).base)
          clear hfar HNY
          go_wp2_with fail
          go_quiet (fail)
          have HB13 := Aside0.mk (pw_below_drewN HB12.out nq)
          obtain ⟨mi, hmi⟩ : ∃ mi, mi = m := ⟨m, rfl⟩
          have HGE := Aside0.mk (show mi.g = m.g by rw [hmi])
          have HXN := Aside0.mk (show mi.z.next = m.z.next by rw [hmi])
          obtain ⟨M2, hM2⟩ : ∃ M2, M2 = Mt := ⟨Mt, rfl⟩
          have HMI2 := Aside0.mk (show M2[i]? = some mi by rw [hM2, hmi]; exact HMI.out)
          have HS13 := Aside0.mk (show SB (w12.drewN nq) w.heap.size (.slice (some ad12) Mt.length c12) M2 by rw [hM2]; exact HS12.out.drewn nq)
          have HLT2 := Aside0.mk (show i < M2.length ∧ M2.length ≤ 300 by rw [hM2]; exact HLT.out)
          rw [← hmi, ← hM2] at HNZ
          clear HS12 HB12 x6 x7 x8 x9 x10 x11 hmi hM2
          generalize w12.drewN nq = w13 at HS13 HB13 ⊢
          have HK := Aside0.mk (HS13.out.at HMI2.out)
          obtain ⟨An, cn, en, hcn, _⟩ := Kd.R_reads HK.out.next
          have HR13 := Aside0.mk (show Kd.R (Kd.int .i64) 3 w13 w.heap.size (fun _ => True) (.slice An mi.z.next.length cn) mi.z.next by rw [← en]; exact HK.out.next)
          have HEN := Aside0.mk en
          have HBK := Aside0.mk (show w13.heap[m.g]? = some (.cells (zCells mi.z mi.vg (.slice An mi.z.next.length cn)) 42 (0, 0)) by rw [← en, ← HGE.out]; exact HK.out.blk)
          have HNL := Aside0.mk (show mi.z.next.length ≤ 1000 by rw [HXN.out]; exact HNL0.out)
          clear hcn en HK
          have x12 : w13.cell? ⟨m.g, 8, none⟩ = some (.slice An mi.z.next.length cn) := (blk_cell HBK.out 8).trans rfl
          go_wp2_with (first
           | ((with_reducible refine gate_dst (N := 105) rfl ?_); refine Kd.R_append (Kd.int .i64) (w0 := w) w.heap.size rfl (.tmp 102) (.tmp 104) 29 3 (.int .i64 0) 8 rfl Tryd.underlying29 info3 rfl (by decide) (by omega) (.slice An mi.z.next.length cn) mi.z.next (j : Int) [.int .i64 (j : Int)] (fun _ => True) (fun _ => False) ?h1 ?h2 ?aP (fun _ hk => hk.elim) ?aF ?aO ?aB ?aS ?aL ?_; (case h1 => rfl); (case h2 => rfl); (case aP => exact rfl); (case aB => exact HB13.out); (case aF => exact (fun _ _ => trivial)); (case aO => exact HR13.out); (case aS => exact HB13.out.size); (case aL => have := HNL.out; omega); intro v14 w14 ho14 hb14 hg14 hat14; (obtain ⟨A14, c14, e14⟩ := Kd.R_slice ho14); (generalize hlen14 : (mi.z.next ++ [(j : Int)]).length = n14 at e14); subst e14; (have HB14 := Aside0.mk hb14); (have HBK14 := Aside0.mk (blk_grown HBK.out hg14 (Kd.R_ne HR13.out HBK.out (by decide)))); (have HS15 := Aside0.mk (HS13.out.grow HMI2.out (v1 := .slice A14 n14 c14) (ys := mi.z.next ++ [(j : Int)]) (by rw [HEN.out]; exact hg14) (by rw [HEN.out]; exact hat14) ho14)); clear ho14 hb14 hg14 hat14 x12 hlen14; (have x13 : w14.cell? ⟨m.g, 8, none⟩ = some (.slice An mi.z.next.length cn) := (blk_cell HBK14.out 8).trans rfl); (have f13 := blk_frozen HBK14.out 8)))
          have HS16 := Aside0.mk (show SB (w14.setCell ⟨m.g, 8, none⟩ (.slice A14 n14 c14)) w.heap.size (.slice (some ad12) Mt.length c12) (M2.set i { mi with vn := .slice A14 n14 c14, z := { mi.z with next := mi.z.next ++ [(j : Int)] } }) by rw [← HGE.out]; exact HS15.out)
          have HB15 := Aside0.mk (show Below w.heap.size w (w14.setCell ⟨m.g, 8, none⟩ (.slice A14 n14 c14)) from below_set HB14.out (HMG.out))
          go_roundg (4 - (d + 1))
          case measure => have := HGK2.out; omega
          case rel => exact ⟨d + 1, _, M2.set i { mi with vn := .slice A14 n14 c14, z := { mi.z with next := mi.z.next ++ [(j : Int)] } }, rfl, by first | rfl | rw [wrap64_nat d (by have := HGK2.out; omega)] | simp, ⟨⟨⟨by have := HGK2.out; omega, Nat.le_refl _⟩, by rw [List.length_set]; exact HLT2.out, { mi with vn := .slice A14 n14 c14, z := { mi.z with next := mi.z.next ++ [(j : Int)] } }, by rw [List.getElem?_set, if_pos rfl, if_pos HLT2.out.1], HGE.out⟩, by rw [show 4 - (d + 1) = 3 - d by omega]; exact HNZ.out _⟩, HS16, HB15⟩
      ·have c4 : decide (zPlace (M.map Zm.z) tx 0 < 0) = false := decide_eq_false hneg
       obtain ⟨j, hj⟩ := Int.eq_ofNat_of_zero_le (Int.not_lt.1 hneg)
       have hsp := HSP.out
       rw [if_neg hneg, hj, Int.toNat_natCast] at hsp
       have hjl := zPlace_lt (M.map Zm.z) tx 0 (by omega)
       rw [List.length_map, hj] at hjl
       have HJ := Aside0.mk (show j ≤ 300 ∧ j < M.length by have := HGK2.out; omega)
       have HNY := Aside0.mk hsp
       have HZJ := Aside0.mk hj
       rw [hj] at c4
       clear hneg HSP hsp hj hjl
       go_wp2_with (first
        | (go_at_call 9; refine (spec_tiTilt.calls k m.z.w m.z.h Ag cg m.z.cs d ow oh oc _ HCG.out.2.2 HCG.out.2.1 HTL.out).mono ?_; rintro e w9 ⟨v9, rfl, ho9, hb9⟩; (have HS9 := Aside0.mk (HS.out.below hb9)); (have HB9 := Aside0.mk (below_then HB.out HB.out.size hb9)); (obtain ⟨A9, c9, e9⟩ := Kd.R_slice ho9); subst e9; (have HO9 := Aside0.mk (Kd.R_lower ho9 HB.out.size)); clear ho9 hb9 HS HB HCG y0 y1 y2)
        | (go_at_call 10; refine (spec_tyText.calls k ow oh A9 c9 oc tx _ (Kd.C_below (Kd.R_reads' HO9.out).2.2 (below_alloc (Below.refl _ _) _)) (Kd.R_reads' HO9.out).2.1 HTX.out).mono ?_; rintro e w10 ⟨rfl, hb10⟩; (obtain ⟨hb10, hk10⟩ := alloc_then hb10); (have HU10 := Aside0.mk hk10); (have HGB := Aside0.mk HB9.out.size); clear hk10; (have HS10 := Aside0.mk (HS9.out.below hb10)); (have HB10 := Aside0.mk (below_then HB9.out HB9.out.size hb10)); (have HO10 := Aside0.mk (Kd.R_below HO9.out hb10)); clear hb10 HS9 HB9 HO9; (generalize w9.heap.size = gt at HU10 HGB ⊢); (obtain ⟨A10, c10, e10, hc10, hst10, _⟩ := HS10.out.read); subst e10; (have HST := Aside0.mk hst10); (have HCC := Aside0.mk hc10); clear hst10 hc10)
        | (go_at_call 11; refine (spec_rePlace.calls A10 M.length c10 (M.map Zm.z) tx _ (by rw [List.length_map]) HST.out (by rw [List.length_map]; have := HGK2.out; omega) HCC.out).mono ?_; rintro e w11 ⟨rfl, ⟨m11, rfl⟩⟩; rw [HZJ.out]))
       obtain ⟨mj, hmj⟩ : ∃ mj, M[j]? = some mj := ⟨_, List.getElem?_eq_getElem HJ.out.2⟩
       have HMJ := Aside0.mk hmj
       have HMI := HM
       have HLT := Aside0.mk (show i < M.length ∧ M.length ≤ 300 from HGK2.out.2)
       have HS12 := Aside0.mk (HS10.out.drewn m11)
       have HB12 := Aside0.mk (pw_below_drewN HB10.out m11)
       clear hmj HS10 HB10 HST HCC HU10 HO10
       generalize w10.drewN m11 = w12 at HS12 HB12 ⊢
       generalize hv12 : Value.slice A10 M.length c10 = v12 at HS12 ⊢
       obtain ⟨Mt, hMt⟩ : ∃ Mt, Mt = M := ⟨M, rfl⟩
       rw [← hMt] at HMI HMJ HLT HNY HS12 HJ
       clear hMt
       obtain ⟨A12, c12, e12, hc12, _, hp12⟩ := HS12.out.read
       have HSL := Aside0.mk (show v12 = .slice A12 Mt.length c12 from e12)
       subst e12
       obtain ⟨ad12, e12, x6⟩ := hp12 j mj HMJ.out
       cases e12
       have q1 : (0 ≤ (j : Int)) = True := eq_true (by omega)
       have q2 : ((j : Int) < (Mt.length : Int)) = True := eq_true (by have := HJ.out; omega)
       have x7 : w12.cell? ⟨mj.g, 4, none⟩ = some (.int .i64 mj.z.far) := (blk_cell (HS12.out.at HMJ.out).blk 4).trans rfl
       have x8 : w12.cell? ⟨m.g, 4, none⟩ = some (.int .i64 m.z.far) := (blk_cell (HS12.out.at HMI.out).blk 4).trans rfl
       have x9 : w12.cell? ⟨mj.g, 5, none⟩ = some (.int .i64 mj.z.words) := (blk_cell (HS12.out.at HMJ.out).blk 5).trans rfl
       have x10 : w12.cell? ⟨m.g, 5, none⟩ = some (.int .i64 m.z.words) := (blk_cell (HS12.out.at HMI.out).blk 5).trans rfl
       have x11 : w12.frozen? ⟨mj.g, 5, none⟩ = false := blk_frozen (HS12.out.at HMJ.out).blk 5
       clear hp12 hc12 HSL
       by_cases hfar : mj.z.far = wrap64 (m.z.far + 1)
       ·have c6 : (mj.z.far == wrap64 (m.z.far + 1)) = true := beq_iff_eq.mpr hfar
        have c7 : (mj.z.far == IntKind.i64.wrap (m.z.far + 1)) = true := by rw [i64_w]; exact c6
        have HFAR := Aside0.mk hfar
        clear hfar
        go_wp2_with fail
        go_quiet (fail)
        go_wp2_with fail
        go_region
        have HS13 := Aside0.mk ((HS12.out.drewn (nq + 1)).word HMJ.out (wrap64 (mj.z.words + m.z.words)))
        have HB13 := Aside0.mk (show Below w.heap.size w ((w12.drewN (nq + 1)).setCell ⟨mj.g, 5, none⟩ (.int .i64 (wrap64 (mj.z.words + m.z.words)))) from below_set (pw_below_drewN HB12.out (nq + 1)) (HS12.out.at HMJ.out).base)
        have HMG := Aside0.mk (show w.heap.size ≤ m.g from (HS12.out.at HMI.out).base)
        obtain ⟨mi, hmi2, hge, hxn⟩ := set_at (mj' := { mj with z := { mj.z with words := wrap64 (mj.z.words + m.z.words) } }) HMI.out HMJ.out rfl rfl
        have HXN := Aside0.mk hxn
        have HNZ := Aside0.mk (show ∀ v, reS k (fun L => reA k (300 - i) (i + 1) L) i (3 - d) (d + 1) (((Mt.set j { mj with z := { mj.z with words := wrap64 (mj.z.words + m.z.words) } }).set i { mi with vn := v, z := { mi.z with next := mi.z.next ++ [(j : Int)] } }).map Zm.z) = some (r1, r2) from fun v => by rw [← touch_yes HMJ.out HMI.out HFAR.out rfl hmi2 v]; exact HNY.out)
        have HLT2 := Aside0.mk (show i < (Mt.set j { mj with z := { mj.z with words := wrap64 (mj.z.words + m.z.words) } }).length ∧ (Mt.set j { mj with z := { mj.z with words := wrap64 (mj.z.words + m.z.words) } }).length ≤ 300 by rw [List.length_set]; exact HLT.out)
        have HMI2 := Aside0.mk hmi2
        have HGE := Aside0.mk hge
        clear hmi2 hge hxn HNY HS12 HB12 x6 x7 x8 x9 x10 x11 HFAR
        generalize (w12.drewN (nq + 1)).setCell ⟨mj.g, 5, none⟩ (.int .i64 (wrap64 (mj.z.words + m.z.words))) = w13 at HS13 HB13 ⊢
        generalize (Mt.set j { mj with z := { mj.z with words := wrap64 (mj.z.words + m.z.words) } }) = M2 at HS13 HMI2 HNZ HLT2
        have HK := Aside0.mk (HS13.out.at HMI2.out)
        obtain ⟨An, cn, en, hcn, _⟩ := Kd.R_reads HK.out.next
        have HR13 := Aside0.mk (show Kd.R (Kd.int .i64) 3 w13 w.heap.size (fun _ => True) (.slice An mi.z.next.length cn) mi.z.next by rw [← en]; exact HK.out.next)
        have HEN := Aside0.mk en
        have HBK := Aside0.mk (show w13.heap[m.g]? = some (.cells (zCells mi.z mi.vg (.slice An mi.z.next.length cn)) 42 (0, 0)) by rw [← en, ← HGE.out]; exact HK.out.blk)
        have HNL := Aside0.mk (show mi.z.next.length ≤ 1000 by rw [HXN.out]; exact HNL0.out)
        clear hcn en HK
        have x12 : w13.cell? ⟨m.g, 8, none⟩ = some (.slice An mi.z.next.length cn) := (blk_cell HBK.out 8).trans rfl
        go_wp2_with (first
         | ((with_reducible refine gate_dst (N := 105) rfl ?_); refine Kd.R_append (Kd.int .i64) (w0 := w) w.heap.size rfl (.tmp 102) (.tmp 104) 29 3 (.int .i64 0) 8 rfl Tryd.underlying29 info3 rfl (by decide) (by omega) (.slice An mi.z.next.length cn) mi.z.next (j : Int) [.int .i64 (j : Int)] (fun _ => True) (fun _ => False) ?h1 ?h2 ?aP (fun _ hk => hk.elim) ?aF ?aO ?aB ?aS ?aL ?_; (case h1 => rfl); (case h2 => rfl); (case aP => exact rfl); (case aB => exact HB13.out); (case aF => exact (fun _ _ => trivial)); (case aO => exact HR13.out); (case aS => exact HB13.out.size); (case aL => have := HNL.out; omega); intro v14 w14 ho14 hb14 hg14 hat14; (obtain ⟨A14, c14, e14⟩ := Kd.R_slice ho14); (generalize hlen14 : (mi.z.next ++ [(j : Int)]).length = n14 at e14); subst e14; (have HB14 := Aside0.mk hb14); (have HBK14 := Aside0.mk (blk_grown HBK.out hg14 (Kd.R_ne HR13.out HBK.out (by decide)))); (have HS15 := Aside0.mk (HS13.out.grow HMI2.out (v1 := .slice A14 n14 c14) (ys := mi.z.next ++ [(j : Int)]) (by rw [HEN.out]; exact hg14) (by rw [HEN.out]; exact hat14) ho14)); clear ho14 hb14 hg14 hat14 x12 hlen14; (have x13 : w14.cell? ⟨m.g, 8, none⟩ = some (.slice An mi.z.next.length cn) := (blk_cell HBK14.out 8).trans rfl); (have f13 := blk_frozen HBK14.out 8)))
        have HS16 := Aside0.mk (show SB (w14.setCell ⟨m.g, 8, none⟩ (.slice A14 n14 c14)) w.heap.size (.slice (some ad12) Mt.length c12) (M2.set i { mi with vn := .slice A14 n14 c14, z := { mi.z with next := mi.z.next ++ [(j : Int)] } }) by rw [← HGE.out]; exact HS15.out)
        have HB15 := Aside0.mk (show Below w.heap.size w (w14.setCell ⟨m.g, 8, none⟩ (.slice A14 n14 c14)) from below_set HB14.out (HMG.out))
        go_roundg (4 - (d + 1))
        case measure => have := HGK2.out; omega
        case rel => exact ⟨d + 1, _, M2.set i { mi with vn := .slice A14 n14 c14, z := { mi.z with next := mi.z.next ++ [(j : Int)] } }, rfl, by first | rfl | rw [wrap64_nat d (by have := HGK2.out; omega)] | simp, ⟨⟨⟨by have := HGK2.out; omega, Nat.le_refl _⟩, by rw [List.length_set]; exact HLT2.out, { mi with vn := .slice A14 n14 c14, z := { mi.z with next := mi.z.next ++ [(j : Int)] } }, by rw [List.getElem?_set, if_pos rfl, if_pos HLT2.out.1], HGE.out⟩, by rw [show 4 - (d + 1) = 3 - d by omega]; exact HNZ.out _⟩, HS16, HB15⟩
       ·have c6 : (mj.z.far == wrap64 (m.z.far + 1)) = false := beq_eq_false_iff_ne.mpr hfar
        have c7 : (mj.z.far == IntKind.i64.wrap (m.z.far + 1)) = false := by rw [i64_w]; exact c6
        have HNZ := Aside0.mk (show ∀ v, reS k (fun L => reA k (300 - i) (i + 1) L) i (3 - d) (d + 1) ((Mt.set i { m with vn := v, z := { m.z with next := m.z.next ++ [(j : Int)] } }).map Zm.z) = some (r1, r2) from fun v => by rw [← touch_no HMJ.out HMI.out hfar v]; exact HNY.out)
        have HMG := Aside0.mk (show w.heap.size ≤ m.g from (HS12.out.at HMI.out).base)
        clear hfar HNY
        go_wp2_with fail
        go_quiet (fail)
        have HB13 := Aside0.mk (pw_below_drewN HB12.out nq)
        obtain ⟨mi, hmi⟩ : ∃ mi, mi = m := ⟨m, rfl⟩
        have HGE := Aside0.mk (show mi.g = m.g by rw [hmi])
        have HXN := Aside0.mk (show mi.z.next = m.z.next by rw [hmi])
        obtain ⟨M2, hM2⟩ : ∃ M2, M2 = Mt := ⟨Mt, rfl⟩
        have HMI2 := Aside0.mk (show M2[i]? = some mi by rw [hM2, hmi]; exact HMI.out)
        have HS13 := Aside0.mk (show SB (w12.drewN nq) w.heap.size (.slice (some ad12) Mt.length c12) M2 by rw [hM2]; exact HS12.out.drewn nq)
        have HLT2 := Aside0.mk (show i < M2.length ∧ M2.length ≤ 300 by rw [hM2]; exact HLT.out)
        rw [← hmi, ← hM2] at HNZ
        clear HS12 HB12 x6 x7 x8 x9 x10 x11 hmi hM2
        generalize w12.drewN nq = w13 at HS13 HB13 ⊢
        have HK := Aside0.mk (HS13.out.at HMI2.out)
        obtain ⟨An, cn, en, hcn, _⟩ := Kd.R_reads HK.out.next
        have HR13 := Aside0.mk (show Kd.R (Kd.int .i64) 3 w13 w.heap.size (fun _ => True) (.slice An mi.z.next.length cn) mi.z.next by rw [← en]; exact HK.out.next)
        have HEN := Aside0.mk en
        have HBK := Aside0.mk (show w13.heap[m.g]? = some (.cells (zCells mi.z mi.vg (.slice An mi.z.next.length cn)) 42 (0, 0)) by rw [← en, ← HGE.out]; exact HK.out.blk)
        have HNL := Aside0.mk (show mi.z.next.length ≤ 1000 by rw [HXN.out]; exact HNL0.out)
        clear hcn en HK
        have x12 : w13.cell? ⟨m.g, 8, none⟩ = some (.slice An mi.z.next.length cn) := (blk_cell HBK.out 8).trans rfl
        go_wp2_with (first
         | ((with_reducible refine gate_dst (N := 105) rfl ?_); refine Kd.R_append (Kd.int .i64) (w0 := w) w.heap.size rfl (.tmp 102) (.tmp 104) 29 3 (.int .i64 0) 8 rfl Tryd.underlying29 info3 rfl (by decide) (by omega) (.slice An mi.z.next.length cn) mi.z.next (j : Int) [.int .i64 (j : Int)] (fun _ => True) (fun _ => False) ?h1 ?h2 ?aP (fun _ hk => hk.elim) ?aF ?aO ?aB ?aS ?aL ?_; (case h1 => rfl); (case h2 => rfl); (case aP => exact rfl); (case aB => exact HB13.out); (case aF => exact (fun _ _ => trivial)); (case aO => exact HR13.out); (case aS => exact HB13.out.size); (case aL => have := HNL.out; omega); intro v14 w14 ho14 hb14 hg14 hat14; (obtain ⟨A14, c14, e14⟩ := Kd.R_slice ho14); (generalize hlen14 : (mi.z.next ++ [(j : Int)]).length = n14 at e14); subst e14; (have HB14 := Aside0.mk hb14); (have HBK14 := Aside0.mk (blk_grown HBK.out hg14 (Kd.R_ne HR13.out HBK.out (by decide)))); (have HS15 := Aside0.mk (HS13.out.grow HMI2.out (v1 := .slice A14 n14 c14) (ys := mi.z.next ++ [(j : Int)]) (by rw [HEN.out]; exact hg14) (by rw [HEN.out]; exact hat14) ho14)); clear ho14 hb14 hg14 hat14 x12 hlen14; (have x13 : w14.cell? ⟨m.g, 8, none⟩ = some (.slice An mi.z.next.length cn) := (blk_cell HBK14.out 8).trans rfl); (have f13 := blk_frozen HBK14.out 8)))
        have HS16 := Aside0.mk (show SB (w14.setCell ⟨m.g, 8, none⟩ (.slice A14 n14 c14)) w.heap.size (.slice (some ad12) Mt.length c12) (M2.set i { mi with vn := .slice A14 n14 c14, z := { mi.z with next := mi.z.next ++ [(j : Int)] } }) by rw [← HGE.out]; exact HS15.out)
        have HB15 := Aside0.mk (show Below w.heap.size w (w14.setCell ⟨m.g, 8, none⟩ (.slice A14 n14 c14)) from below_set HB14.out (HMG.out))
        go_roundg (4 - (d + 1))
        case measure => have := HGK2.out; omega
        case rel => exact ⟨d + 1, _, M2.set i { mi with vn := .slice A14 n14 c14, z := { mi.z with next := mi.z.next ++ [(j : Int)] } }, rfl, by first | rfl | rw [wrap64_nat d (by have := HGK2.out; omega)] | simp, ⟨⟨⟨by have := HGK2.out; omega, Nat.le_refl _⟩, by rw [List.length_set]; exact HLT2.out, { mi with vn := .slice A14 n14 c14, z := { mi.z with next := mi.z.next ++ [(j : Int)] } }, by rw [List.getElem?_set, if_pos rfl, if_pos HLT2.out.1], HGE.out⟩, by rw [show 4 - (d + 1) = 3 - d by omega]; exact HNZ.out _⟩, HS16, HB15⟩
     ·obtain rfl : d = 4 := by have := HA.out.1.1; omega
      have c3 : decide (((4 : Nat) : Int) < 4) = false := decide_eq_false (by omega)
      have hsp := HA.out.2
      rw [show 4 - 4 = 0 from rfl, reS] at hsp
      have HNX := Aside0.mk hsp
      have HGK3 := Aside0.mk (show i < M.length ∧ M.length ≤ 300 from HA.out.1.2.1)
      clear hsp HA hd
      go_wp2
      go_roundg (301 - (i + 1))
      case measure => have := HGK.out; omega
      case rel => exact ⟨i + 1, _, M, rfl, by first | rfl | rw [wrap64_nat i (by have := HGK3.out; omega)] | simp, ⟨⟨by have := HGK3.out; omega, HGK3.out.2, Nat.le_refl _⟩, by rw [show 301 - (i + 1) = 300 - i by omega]; exact HNX.out⟩, HS, HB⟩
   ·obtain rfl : i = M.length := by have := HA.out.1.1; omega
    have c2 : decide ((M.length : Int) < (M.length : Int)) = false := decide_eq_false (by omega)
    have hsp := HA.out.2
    rw [show 301 - M.length = (300 - M.length) + 1 by have := HA.out.1; omega, reA, if_neg (by rw [List.length_map]; exact hli)] at hsp
    simp only [Option.some.injEq, Prod.mk.injEq] at hsp
    obtain ⟨rfl, rfl⟩ := hsp
    have HST := Aside0.mk hstL
    have HCL := Aside0.mk hcL
    have HML := Aside0.mk (show M.length ≤ 300 from HA.out.1.2.1)
    subst eL
    clear HA hli hstL hptL hcL
    go_wp2
    go_ret2
    exact ⟨AL, cL, by rw [List.length_map]; rfl, by rw [List.length_map]; exact HCL.out, by rw [List.length_map]; exact HML.out, HST.out, HB.out⟩
end Go.Proofs.YtchkmhbngbgjnaaDoor.Q
end
section
namespace Go.Proofs.YtchkmhbngbgjnaaDoor.Q
set_option linter.unusedSectionVars false
set_option linter.unusedSimpArgs false
open Go.RowKit Go.Proofs.YtchkmhbngbgjnaaDoorW.PrintWords Go.Proofs.YtchkmhbngbgjnaaDoorW.PrintLast Go.Proofs.YtchkmhbngbgjnaaDoorW.PrintMore
def spec_CountReached.f (k : Nat) (t : ByteArray) : Option (Int × Bool) := (spec_reAll.f k t).bind fun a => some ((a.1.length : Int), a.2)
set_option maxHeartbeats 8000000 in
set_option maxRecDepth 100000 in
theorem spec_CountReached.calls (k : Nat) (a0 : ByteArray) (r1 : Int) (r2 : Bool) (w : World) (h : spec_CountReached.f k a0 = some (r1, r2)) :
  Calls Tryd.prog 4 #[.string a0] w fun e w' => e = .returned (.tuple #[.int .i64 r1, .bool r2]) ∧ Below w.heap.size w w' := by
 unfold spec_CountReached.f at h
 obtain ⟨⟨L, ok⟩, ha, h⟩ := Option.bind_eq_some_iff.1 h
 have HA := Aside0.mk ha
 clear ha
 simp only [Option.some.injEq, Prod.mk.injEq] at h
 obtain ⟨rfl, rfl⟩ := h
 go_enter Tryd.func4, Tryd.ntmps4
 go_wp2_with (first
  | (go_at_call 6; refine (spec_reAll.calls k a0 L ok _ HA.out).mono ?_; rintro e w1 ⟨A1, c1, rfl, hc1, hl1, hs1, hb1⟩; (have HB1 := Aside0.mk hb1); clear hc1 hl1 hs1 hb1))
 go_ret2
 exact ⟨rfl, HB1.out⟩
end Go.Proofs.YtchkmhbngbgjnaaDoor.Q
end
section
namespace Go.Proofs.YtchkmhbngbgjnaaDoor.Q
open Go.RowKit Go.Proofs.YtchkmhbngbgjnaaDoorW.PrintWords Go.Proofs.YtchkmhbngbgjnaaDoorW.PrintLast Go.Proofs.YtchkmhbngbgjnaaDoorW.PrintMore
attribute [local go_sem] max2_int min2_int max_two min_two max_three min_three max_four min_four
set_option linter.unusedVariables false
set_option linter.unusedSimpArgs false
def impl_CountReached.f (k : Nat) (a0 : ByteArray) : Option (Int × Bool) := (impl_reachOf.f k a0).bind fun bt101 => (some ((bt101.1.length : Int), bt101.2.2.2.2))
set_option maxHeartbeats 8000000 in
set_option maxRecDepth 100000 in
theorem impl_CountReached.calls (k : Nat) (a0 : ByteArray) (r1 : Int) (r2 : Bool) (w : World) (hG : GoodW w) (h : impl_CountReached.f k a0 = some (r1, r2)) :
  Calls Tryd.prog 5 #[.string a0] w fun e w' => e = .returned (.tuple #[.int .i64 r1, .bool r2]) ∧ Below w.heap.size w w' := by
 have hu32 := Tryd.underlying32
 have HG := Aside0.mk hG
 clear hG
 have HB := Aside0.mk (Below.refl w.heap.size w)
 have H : ((impl_reachOf.f k a0).bind fun bt101 => (some ((bt101.1.length : Int), bt101.2.2.2.2))) = some (r1, r2) := h
 clear h
 replace H := Option.bind_eq_some_iff.mp H
 obtain ⟨⟨t101, t104, t107, t110, t113⟩, A20, H⟩ := H
 replace H : (some ((t101.length : Int), t113)) = some (r1, r2) := H
 have A2 := Aside0.mk A20
 clear A20
 simp only [Option.some.injEq, Prod.mk.injEq] at H
 obtain ⟨rfl, rfl⟩ := H
 go_enter Tryd.func5, Tryd.ntmps5
 go_wp2_with (first | ((with_reducible refine gate_callee (f := 7) rfl ?_); refine gcall (some 8) Tryd.func7 #[.string a0] rfl ?_; (with_reducible refine (impl_reachOf.calls k a0 t101 t104 t107 t110 t113 _ ?side1 A2.out).mono ?_); (case side1 => (refine GoodW.below HG.out ?_); exact bel HB); rintro e w3 ⟨v102, v105, v108, v111, rfl, ho0, ho1, ho2, ho3, hb⟩; refine ⟨_, rfl, ?_⟩; have n0_ := Aside0.mk (Kd.R_lower ho0 (below_size (bel HB))); have n1_ := Aside0.mk (Kd.R_lower ho1 (below_size (bel HB))); have n2_ := Aside0.mk (Kd.S_lower ho2 (below_size (bel HB))); have n3_ := Aside0.mk (Kd.R_lower ho3 (below_size (bel HB))); have n4_ := Aside0.mk (below_step (bel HB) hb); clear HB; have HO103 := n0_; have HO106 := n1_; have HO109 := n2_; have HO112 := n3_; have HB := n4_; clear n0_ n1_ n2_ n3_ n4_; (try clear hb); (try clear hb2); (try clear hk); (try clear hi); (try clear ho0); (try clear ho1); (try clear ho2); (try clear ho3)) | ((with_reducible refine gate_dst (N := 4) rfl ?_); refine boxE (N := 4) (cs := #[.slice none 0 0, .slice none 0 0, .slice none 0 0, .slice none 0 0]) (t := 32) ?_; intro gb114 hg w4 hbox hb; have n0_ := Aside0.mk (Kd.R_below (rch HO103) hb); have n1_ := Aside0.mk (Kd.R_below (rch HO106) hb); have n2_ := Aside0.mk (Kd.S_below (by (with_reducible repeat (first | apply Kd.S_alloc | apply Kd.S_drewN | apply Kd.S_drew)); (first | exact HO109.out | exact R_any HO109.out)) hb); have n3_ := Aside0.mk (Kd.R_below (rch HO112) hb); have n4_ := Aside0.mk (below_step (bel HB) hb); have n5_ := Aside0.mk (hbox); have n6_ := Aside0.mk (gsz hg (bel HB)); have n7_ := Aside0.mk (gsz hg (bel HB)); clear HO103; clear HO106; clear HO109; clear HO112; clear HB; have HO103 := n0_; have HO106 := n1_; have HO109 := n2_; have HO112 := n3_; have HB := n4_; have BK114 := n5_; have GW114 := n6_; have GE114 := n7_; clear n0_ n1_ n2_ n3_ n4_ n5_ n6_ n7_; clear hb hbox hg; obtain ⟨Ao5, co5, eo5⟩ := Kd.R_slice HO103.out; subst eo5; have hcz6_0 : w4.cell? ⟨gb114, 0, none⟩ = some (.slice none 0 0) := (blk_cell BK114.out 0).trans rfl; have hcz6_1 : w4.cell? ⟨gb114, 1, none⟩ = some (.slice none 0 0) := (blk_cell BK114.out 1).trans rfl; have hcz6_2 : w4.cell? ⟨gb114, 2, none⟩ = some (.slice none 0 0) := (blk_cell BK114.out 2).trans rfl; have hcz6_3 : w4.cell? ⟨gb114, 3, none⟩ = some (.slice none 0 0) := (blk_cell BK114.out 3).trans rfl; have hfz6_0 := blk_frozen BK114.out 0; have hfz6_1 := blk_frozen BK114.out 1; have hfz6_2 := blk_frozen BK114.out 2; have hfz6_3 := blk_frozen BK114.out 3; obtain ⟨Ao7, co7, eo7⟩ := Kd.R_slice HO106.out; subst eo7; obtain ⟨Ao8, co8, eo8⟩ := Kd.S_slice HO109.out; subst eo8; obtain ⟨Ao9, co9, eo9⟩ := Kd.R_slice HO112.out; subst eo9))
 go_ret2
 exact ⟨by first | rfl | (simp [errW_none, errW_some] <;> rfl) | (simp [*, errW_none, errW_some] <;> rfl), bel HB⟩
def laws_FnExactCountReached.f (k : Nat) (a0 : ByteArray) : Option (Bool) := if (a0.size : Int) > 1048576 then (some true) else ((spec_CountReached.f k a0).bind fun bt101 => ((impl_CountReached.f k a0).bind fun bt103 => (if bt103.1 = bt101.1 then (if (bt103.2 != bt101.2) = true then (some false) else (some true)) else (some false))))
set_option maxHeartbeats 8000000 in
set_option maxRecDepth 100000 in
theorem laws_FnExactCountReached.calls (k : Nat) (a0 : ByteArray) (r : Bool) (w : World) (hG : GoodW w) (h : laws_FnExactCountReached.f k a0 = some r) :
  Calls Tryd.prog 3 #[.string a0] w fun e w' => e = .returned (.bool r) ∧ Below w.heap.size w w' := by
 have HG := Aside0.mk hG
 clear hG
 have HB := Aside0.mk (Below.refl w.heap.size w)
 have H : (if (a0.size : Int) > 1048576 then (some true) else ((spec_CountReached.f k a0).bind fun bt101 => ((impl_CountReached.f k a0).bind fun bt103 => (if bt103.1 = bt101.1 then (if (bt103.2 != bt101.2) = true then (some false) else (some true)) else (some false))))) = some r := h
 clear h
 by_cases c2 : (a0.size : Int) > 1048576
 ·rw [if_pos c2] at H
  have c2b0 : decide (1048576 < (a0.size : Int)) = true := decide_eq_true c2
  have c2b1 : decide (1048576 < a0.size) = true := decide_eq_true (by omega)
  clear c2
  obtain rfl := Option.some.inj H
  go_enter Tryd.func3, Tryd.ntmps3
  go_wp2
  go_ret
  exact ⟨by first | rfl | (simp [errW_none, errW_some] <;> rfl) | (simp [*, errW_none, errW_some] <;> rfl), bel HB⟩
 ·rw [if_neg c2] at H
  have c2b0 : decide (1048576 < (a0.size : Int)) = false := decide_eq_false c2
  have c2b1 : decide (1048576 < a0.size) = false := decide_eq_false (by omega)
  clear c2
  replace H := Option.bind_eq_some_iff.mp H
  obtain ⟨⟨t101, t102⟩, A30, H⟩ := H
  replace H : ((impl_CountReached.f k a0).bind fun bt103 => (if bt103.1 = t101 then (if (bt103.2 != t102) = true then (some false) else (some true)) else (some false))) = some r := H
  have A3 := Aside0.mk A30
  clear A30
  replace H := Option.bind_eq_some_iff.mp H
  obtain ⟨⟨t103, t104⟩, A40, H⟩ := H
  replace H : (if t103 = t101 then (if (t104 != t102) = true then (some false) else (some true)) else (some false)) = some r := H
  have A4 := Aside0.mk A40
  clear A40
  by_cases c5 : t103 = t101
  ·rw [if_pos c5] at H
   have c5b0 : (t103 == t101) = true := beq_iff_eq.mpr c5
   have c5b1 : (t103 != t101) = false := bne_eq_false_iff_eq.mpr c5
   clear c5
   by_cases c6 : (t104 != t102) = true
   ·rw [if_pos c6] at H
    have c6b0 : (t104 != t102) = true := c6
    (try (have c6b1 : decide (t104 = t102) = false := by simpa using c6))
    (try (have c6b2 : (t104 == t102) = false := by simpa using c6))
    (try (have c6b3 : ¬ (t104 = t102) := by simpa using c6))
    clear c6
    obtain rfl := Option.some.inj H
    go_enter Tryd.func3, Tryd.ntmps3
    go_wp2_with (first | ((with_reducible refine gate_callee (f := 4) rfl ?_); refine gcall (some 12) Tryd.func4 #[.string a0] rfl ?_; (with_reducible refine (spec_CountReached.calls k a0 t101 t102 _ A3.out).mono ?_); rintro e w7 ⟨rfl, hb⟩; refine ⟨_, rfl, ?_⟩; have n0_ := Aside0.mk (below_step (bel HB) hb); clear HB; have HB := n0_; clear n0_; (try clear hb); (try clear hb2); (try clear hk); (try clear hi)) | ((with_reducible refine gate_callee (f := 5) rfl ?_); refine gcall (some 17) Tryd.func5 #[.string a0] rfl ?_; (with_reducible refine (impl_CountReached.calls k a0 t103 t104 _ ?side1 A4.out).mono ?_); (case side1 => (refine GoodW.below HG.out ?_); exact bel HB); rintro e w8 ⟨rfl, hb⟩; refine ⟨_, rfl, ?_⟩; have n0_ := Aside0.mk (below_step (bel HB) hb); clear HB; have HB := n0_; clear n0_; (try clear hb); (try clear hb2); (try clear hk); (try clear hi)))
    go_ret
    exact ⟨by first | rfl | (simp [errW_none, errW_some] <;> rfl) | (simp [*, errW_none, errW_some] <;> rfl), bel HB⟩
   ·rw [if_neg c6] at H
    have c6b0 : (t104 != t102) = false := by simpa using c6
    (try (have c6b1 : decide (t104 = t102) = true := by simpa using c6))
    (try (have c6b2 : (t104 == t102) = true := by simpa using c6))
    clear c6
    obtain rfl := Option.some.inj H
    go_enter Tryd.func3, Tryd.ntmps3
    go_wp2_with (first | ((with_reducible refine gate_callee (f := 4) rfl ?_); refine gcall (some 12) Tryd.func4 #[.string a0] rfl ?_; (with_reducible refine (spec_CountReached.calls k a0 t101 t102 _ A3.out).mono ?_); rintro e w9 ⟨rfl, hb⟩; refine ⟨_, rfl, ?_⟩; have n0_ := Aside0.mk (below_step (bel HB) hb); clear HB; have HB := n0_; clear n0_; (try clear hb); (try clear hb2); (try clear hk); (try clear hi)) | ((with_reducible refine gate_callee (f := 5) rfl ?_); refine gcall (some 17) Tryd.func5 #[.string a0] rfl ?_; (with_reducible refine (impl_CountReached.calls k a0 t103 t104 _ ?side1 A4.out).mono ?_); (case side1 => (refine GoodW.below HG.out ?_); exact bel HB); rintro e w10 ⟨rfl, hb⟩; refine ⟨_, rfl, ?_⟩; have n0_ := Aside0.mk (below_step (bel HB) hb); clear HB; have HB := n0_; clear n0_; (try clear hb); (try clear hb2); (try clear hk); (try clear hi)))
    go_ret
    exact ⟨by first | rfl | (simp [errW_none, errW_some] <;> rfl) | (simp [*, errW_none, errW_some] <;> rfl), bel HB⟩
  ·rw [if_neg c5] at H
   have c5b0 : (t103 == t101) = false := beq_eq_false_iff_ne.mpr c5
   have c5b1 : (t103 != t101) = true := bne_iff_ne.mpr c5
   obtain rfl := Option.some.inj H
   go_enter Tryd.func3, Tryd.ntmps3
   go_wp2_with (first | ((with_reducible refine gate_callee (f := 4) rfl ?_); refine gcall (some 12) Tryd.func4 #[.string a0] rfl ?_; (with_reducible refine (spec_CountReached.calls k a0 t101 t102 _ A3.out).mono ?_); rintro e w11 ⟨rfl, hb⟩; refine ⟨_, rfl, ?_⟩; have n0_ := Aside0.mk (below_step (bel HB) hb); clear HB; have HB := n0_; clear n0_; (try clear hb); (try clear hb2); (try clear hk); (try clear hi)) | ((with_reducible refine gate_callee (f := 5) rfl ?_); refine gcall (some 17) Tryd.func5 #[.string a0] rfl ?_; (with_reducible refine (impl_CountReached.calls k a0 t103 t104 _ ?side1 A4.out).mono ?_); (case side1 => (refine GoodW.below HG.out ?_); exact bel HB); rintro e w12 ⟨rfl, hb⟩; refine ⟨_, rfl, ?_⟩; have n0_ := Aside0.mk (below_step (bel HB) hb); clear HB; have HB := n0_; clear n0_; (try clear hb); (try clear hb2); (try clear hk); (try clear hi)))
   go_ret
   exact ⟨by first | rfl | (simp [errW_none, errW_some] <;> rfl) | (simp [*, errW_none, errW_some] <;> rfl), bel HB⟩
end Go.Proofs.YtchkmhbngbgjnaaDoor.Q
end
section
namespace Go.Proofs.YtchkmhbngbgjnaaDoor.Q
set_option linter.unusedSectionVars false
open Go.RowKit Go.Proofs.YtchkmhbngbgjnaaDoorW.PrintWords Go.Proofs.YtchkmhbngbgjnaaDoorW.PrintLast Go.Proofs.YtchkmhbngbgjnaaDoorW.PrintMore
open Classical
def CountReachedR (t : ByteArray) : Int × Bool := (((reAllR t).1.length : Int), (reAllR t).2)
theorem specCountReached_ev (t : ByteArray) : Ev (fun k => spec_CountReached.f k t) (CountReachedR t) :=
 Ev.bind (f := fun _ (a : List Zs × Bool) => some ((a.1.length : Int), a.2)) (reAll_ev t) (Ev.const rfl)
theorem implCountReached_ev (t : ByteArray) (ht : t.size ≤ 1048576) : Ev (fun k => impl_CountReached.f k t) (CountReachedR t) := by
 refine Ev.bind (f := fun _ (bt101 : ReR) => some ((bt101.1.length : Int), bt101.2.2.2.2)) (reachOf_ev t ht) (Ev.const ?_)
 unfold CountReachedR
 rcases found_cases t with ⟨h1, h2⟩ | ⟨w, h, cs, p, H⟩
 ·rw [h1, h2]
  rfl
 ·rw [H.all, H.prog]
  show some (((txs w h p.1).length : Int), true) = some (((foundZ w h p).length : Int), true)
  unfold txs foundZ
  rw [List.length_map, zL_len]
theorem lawCountReached_ev (t : ByteArray) : Ev (fun k => laws_FnExactCountReached.f k t) true := by
 by_cases ht : t.size ≤ 1048576
 case neg =>
  refine Ev.congr (Ev.const (o := some true) rfl) fun k => ?_
  unfold laws_FnExactCountReached.f
  exact if_pos (by omega)
 have hsp := specCountReached_ev t
 have him := implCountReached_ev t ht
 refine Ev.congr (Ev.bind (f := fun k (bt101 : Int × Bool) => ((impl_CountReached.f k t).bind fun bt103 => (if bt103.1 = bt101.1 then (if (bt103.2 != bt101.2) = true then (some false) else (some true)) else (some false)))) hsp (Ev.bind (f := fun _ (bt103 : Int × Bool) => (if bt103.1 = (CountReachedR t).1 then (if (bt103.2 != (CountReachedR t).2) = true then (some false) else (some true)) else (some false))) him (Ev.const ?_))) fun k => by unfold laws_FnExactCountReached.f; rw [if_neg (by omega)]
 rw [if_pos rfl, bne_self_eq_false, if_neg (by decide)]
end Go.Proofs.YtchkmhbngbgjnaaDoor.Q
end
