/- Texts of this claim, joined. -/
import Derived.Test.YtchjgphnglklcaaGreatDoorJWordToCell05
import Derived.Test.YtchjgphnglklcaaGreatDoorJWordToCell04
import Derived.Test.YtchjgphnglklcaaGreatDoorJWordToCell01
set_option linter.unusedVariables false
set_option linter.unusedSimpArgs false
set_option linter.unusedSectionVars false
section
namespace Go.Proofs.YtchjgphnglklcaaGreatDoor.Q
set_option linter.unusedSectionVars false
set_option linter.unusedSimpArgs false
open Go.RowKit Go.Proofs.YtchjgphnglklcaaGreatDoorW.PrintWords Go.Proofs.YtchjgphnglklcaaGreatDoorW.PrintLast Go.Proofs.YtchjgphnglklcaaGreatDoorW.PrintMore
theorem wpList_inserts {P : Program} {ops : Array Oper} {rest : List Oper} {o : Oper} {a : Act} {Q : Exit → Act → World → Prop} (hP : P = Tryz.prog) (w : World) (hg : o.guard = none) (m x v : Operand) (t : TypeId) (hop : o.op = .insert t m x v) (ht : Tryz.prog.underlying t = some (.map 9 3))
  (b n : Nat) (f : List UInt8 → Option Int) (h : MPS w b n f) (hn : n < 1000000) (kx : ByteArray) (c : Int) (hm : a.eval m = .map (some b)) (hx : a.eval x = .string kx) (hv : a.eval v = .int .i64 c) (hb : kx.size ≤ maxLen ∧ 0 ≤ c ∧ c ≤ 1000000)
  (hK : ∀ w', MPS w' b (n + 1) (updS f kx.data.toList c) → w.grownBy w' (some b) → wpList P ops Q rest (a.put o.dst undef) w') : wpList P ops Q (o :: rest) a w := by
 subst hP;obtain ⟨D, hown, hh⟩ := h
 refine wpList_plain hg fun K' hK' => ?_
 obtain ⟨w', hrun, r1, r2⟩ := hown.update keyS ht (by unfold maxLen; omega) (Go.WideMaps.keyOf_string_mk Tryz.underlying9 hb.1) (pe_int (lk_wf hb.2.1 hb.2.2));unfold Oper.wp
 simp [execOp, hop, hm, hx, hv, hrun, Result.andThen]
 exact hK' _ _ (hK w' ⟨_, r1, hh.put kx.data.toList c⟩ r2)
theorem R_four {α : Type} {K : Kd α} {e base : Nat} {ok : Nat → Prop} {w : World} {v : Value} {xs : List α} (h : K.R e w base ok v xs) {g t : Nat} {cells : Array Value} (hb : w.heap[g]? = some (.cells cells t (0, 0))) (ht : ∀ q, q ∈ e :: K.E → q ≠ t) (u0 u1 u2 u3 : Value) : K.R e ((((w.setCell ⟨g, 0, none⟩ u0).setCell ⟨g, 1, none⟩ u1).setCell ⟨g, 2, none⟩ u2).setCell ⟨g, 3, none⟩ u3) base ok v xs :=
 Kd.R_mono (Kd.R_far (p := ⟨g, 3, none⟩) (Kd.R_far (p := ⟨g, 2, none⟩) (Kd.R_far (p := ⟨g, 1, none⟩) (Kd.R_far (p := ⟨g, 0, none⟩) (Kd.R_types h hb ht) (fun _ hk => hk.2) u0) (fun _ hk => hk.2) u1) (fun _ hk => hk.2) u2) (fun _ hk => hk.2) u3) (fun _ hk => hk.1)
theorem S_four {α : Type} {K : Kd α} {e base : Nat} {ok : Nat → Prop} {w : World} {v : Value} {xs : List α} (h : K.S e w base ok v xs) {g t : Nat} {cells : Array Value} (hb : w.heap[g]? = some (.cells cells t (0, 0))) (ht : ∀ q, q ∈ e :: K.E → q ≠ t) (u0 u1 u2 u3 : Value) : K.S e ((((w.setCell ⟨g, 0, none⟩ u0).setCell ⟨g, 1, none⟩ u1).setCell ⟨g, 2, none⟩ u2).setCell ⟨g, 3, none⟩ u3) base ok v xs :=
 Kd.S_mono (Kd.S_far (p := ⟨g, 3, none⟩) (Kd.S_far (p := ⟨g, 2, none⟩) (Kd.S_far (p := ⟨g, 1, none⟩) (Kd.S_far (p := ⟨g, 0, none⟩) (Kd.S_types h hb ht) (fun _ hk => hk.2) u0) (fun _ hk => hk.2) u1) (fun _ hk => hk.2) u2) (fun _ hk => hk.2) u3) (fun _ hk => hk.1)
theorem wpList_looks_of {P : Program} {ops : Array Oper} {rest : List Oper} {o : Oper} {a : Act} {Q : Exit → Act → World → Prop} (hP : P = Tryz.prog) (w : World) (hg : o.guard = none) (m x : Operand) (t : TypeId) (hop : o.op = .lookup t m x true) (ht : Tryz.prog.underlying t = some (.map 9 3))
  (b n : Nat) (f : List UInt8 → Option Int) (h : MPS w b n f) (kx : ByteArray) (hm : a.eval m = .map (some b)) (hx : a.eval x = .string kx) (hb : kx.size ≤ maxLen) (c : Int) (g : Bool) (hc : (f kx.data.toList).getD 0 = c) (hgg : (f kx.data.toList).isSome = g)
  (hK : wpList P ops Q rest (a.put o.dst (.tuple #[.int .i64 c, .bool g])) w) : wpList P ops Q (o :: rest) a w := by
 subst hc hgg
 exact wpList_looks hP w hg m x t hop ht b n f h kx hm hx hb hK
theorem gate_insert {P : Program} {ops : Array Oper} {rest : List Oper} {o : Oper} {a : Act} {W : World} {Q : Exit → Act → World → Prop} {m x v : Operand} {t : TypeId} (_ : o.op = .insert t m x v) (h : wpList P ops Q (o :: rest) a W) : wpList P ops Q (o :: rest) a W := h
def bA (n : Nat) : Array Bool := ((List.range 34).map fun i => n.testBit i).toArray
section
variable {w : World} {B gb gr gt bm n i : Nat} {cg : Array Value} {f : List UInt8 → Option Int} {o : Nat → Nat} {vt0 vf0 vn0 : Value} {vt : Value} {lt : List ByteArray} {vfa : Value} {lfa : List Int} {vnx : Value} {lnx : List (List Int)} {W : List ByteArray} {vx : Value} {lx : List Int} {v3 : Value} {l3 : List ByteArray} {v13 : Value} {l13 : List Int} {v23 : Value} {l23 : List Int} {v26 : Value} {l26 : List ByteArray} {vg : Value} {lg : List Int} {vd : Value} {ld : List Int} {adW adF : Addr} {cw cf : Nat}
theorem held18 (h : RG w B gb gr gt bm n #[vt0, vf0, vn0, .slice (some adW) W.length cw] cg f o vt lt vfa lfa (.slice (some adW) W.length cw) W vnx lnx vx lx v3 l3 v13 l13 v23 l23 v26 l26 vg lg vd ld) (hi : i < W.length) :
  w.cell? ⟨gr, 0, none⟩ = some vt0 ∧ w.cell? ⟨gr, 1, none⟩ = some vf0 ∧ w.cell? ⟨gr, 3, none⟩ = some (.slice (some adW) W.length cw) ∧ w.cell? (adW.add i) = some (.string (rdOf ByteArray.empty W (i : Int))) := by
 refine ⟨(blk_cell h.blk 0).trans rfl, (blk_cell h.blk 1).trans rfl, (blk_cell h.blk 3).trans rfl, ?_⟩
 obtain ⟨ad, e, hx⟩ := Kd.at_string (Kd.R_reads' h.wd).2.2 (i : Int) (by omega) (by omega)
 cases e
 exact hx
theorem far18 {cs : Array Value} {vw : Value} {lw : List ByteArray} {F : List Int} (h : RG w B gb gr gt bm n cs cg f o vt lt (.slice (some adF) F.length cf) F vw lw vnx lnx vx lx v3 l3 v13 l13 v23 l23 v26 l26 vg lg vd ld) (hi : i < F.length) : w.cell? (adF.add i) = some (.int .i64 (rd F (i : Int))) := by
 obtain ⟨ad, e, hx⟩ := Kd.at_int (Kd.R_reads' h.fa).2.2 (i : Int) (by omega) (by omega)
 cases e
 exact hx
end
section
variable {P : Program} {ops : Array Oper} {o : Oper} {a a' : Act} {Q : Exit → Act → World → Prop} {Kc : Act → World → Prop} {α : Type} {w W : World}
theorem lit18 (d : Kd α) (e : Nat) {N : Tmp} (x : α) (u : Value) (j : Nat) (oo : Nat → Nat) (HB : Aside0 (Below w.heap.size w W))
  (h : ∀ v1 w1, d.R e w1 w.heap.size (fun k_ => upo oo W.heap.size j k_ = j) v1 [x] → Below w.heap.size w w1 → W.grownBy w1 none → Kc (a.put o.dst v1) w1)
  (hw : Region.wanted o (yielded ops a.tmps) = true := by rfl) (hd : o.dst = some N := by rfl)
  (hrun : (execOp a.eval o).run P W = .ok (.value (.slice (some ⟨W.heap.size, 0, none⟩) [x].length [x].length)) (W.alloc (.cells [u].toArray e)) := by first | (go_simp; done) | (go_simp; rfl))
  (hrep : Reps (d.M W w.heap.size fun _ => False) d.sz [x] [u] := by exact Reps.one (show Kd.M _ _ _ _ _ _ from rfl) (Reps.none _ _)) : if Region.wanted o (yielded ops a.tmps) = true then Oper.wp P o a W Kc Q else Kc (a.put o.dst undef) W :=
 Kd.R_lit_step (xs := [x]) (inner := [u]) (ok := fun k_ => upo oo W.heap.size j k_ = j) (okp := fun _ => False) d w.heap.size e hw hd hrun hrep (fun _ hk => hk.elim) (upo_new (Nat.le_refl _)) HB.out HB.out.size (by simp) fun v1 w1 h1 h2 h3 _ => h v1 w1 h1 h2 h3
theorem app18 (d : Kd α) (s x : Operand) (t e : TypeId) (z : Value) (bytes : Nat) (v : Value) (xs : List α) (y : α) {Aq : Option Addr} {cq : Nat} (j : Nat) (oo : Nat → Nat) (HB : Aside0 (Below w.heap.size w W)) (HO : d.R e W w.heap.size (fun k_ => upo oo W.heap.size j k_ = j) v xs) (HR : d.C W Aq [y].length [y])
  (ht : P.underlying t = some (.slice e)) (hinfo : (P.info? e).map (fun i => (i.zero, i.size, i.bytes)) = some (some z, d.sz, bytes)) (hl : (xs.length + 1) * bytes ≤ 140737488355328)
  (h : ∀ v1 w1, d.R e w1 w.heap.size (fun k_ => upo oo W.heap.size j k_ = j) v1 (xs ++ [y]) → Below w.heap.size w w1 → W.grownBy w1 v.ownBlock → Kc (a.put o.dst v1) w1)
  (hw : Region.wanted o (yielded ops a.tmps) = true := by rfl) (ho : o.op = .call { callee := .builtin .append, args := #[s, x], argTypes := #[t, t] } := by rfl) (hz : z.cells.size = d.sz := by rfl) (hs0 : 0 < d.sz := by decide) (hb0 : 0 < bytes := by decide) (hs : a.eval s = v := by rfl) (hx : a.eval x = .slice Aq 1 cq := by rfl)
  (hKM : ∀ x cs, d.K W x cs → d.M W w.heap.size (fun _ => False) x cs := by exact fun _ _ h_ => h_) : if Region.wanted o (yielded ops a.tmps) = true then Oper.wp P o a W Kc Q else Kc (a.put o.dst undef) W :=
 Kd.R_append_rows_step d (Rr := d.K W) (w0 := w) w.heap.size hw s x t e z bytes ho ht hinfo hz hs0 hb0 v xs [y] Aq 1 cq (fun k_ => upo oo W.heap.size j k_ = j) (fun _ => False) hs hx HO HR hKM (fun _ hk => hk.elim) (fun _ hk => upo_new hk) HB.out HB.out.size hl fun v1 w1 h1 h2 h3 _ => h v1 w1 h1 h2 h3
theorem nrm18 {md : Region.Mode} {S : World → Prop} {ds : List Nat} {fuel : Nat} {l : Array Bool} (h : wpAnyLast P md ops Q S ds fuel l a' W) (ha : a = a' := by first | (simp only [putAll, Act.put, List.setIfInBounds_toArray, List.set_cons_zero, List.set_cons_succ]; done) | (simp only [putAll, Act.put, List.setIfInBounds_toArray, List.set_cons_zero, List.set_cons_succ]; rfl)) : wpAnyLast P md ops Q S ds fuel l a W := norm_ ha h
end
set_option maxHeartbeats 16000000 in
set_option maxRecDepth 100000 in
theorem impl_reachOf.calls (k : Nat) (a0 : ByteArray) (r1 : List ByteArray) (r2 : List Int) (r3 : List (List Int)) (r4 : List ByteArray) (r5 : Bool) (w : World) (hG : GoodW w) (h : impl_reachOf.f k a0 = some (r1, r2, r3, r4, r5)) :
  Calls Tryz.prog 26 #[.string a0] w fun e w' => ∃ v1 v2 v3 v4 : Value, e = .returned (.tuple #[.agg #[v1, v2, v3, v4], .bool r5]) ∧ Kd.R Kd.string 9 w' w.heap.size (fun k_ => some k_ ≠ v4.ownBlock) v1 r1 ∧ Kd.R (Kd.int .i64) 3 w' w.heap.size (fun _ => True) v2 r2 ∧ Kd.S (Kd.slice 3 (Kd.int .i64)) 39 w' w.heap.size (fun k_ => some k_ ≠ v2.ownBlock) v3 r3 ∧ Kd.R Kd.string 9 w' w.heap.size (fun k_ => some k_ ≠ v1.ownBlock) v4 r4 ∧ Below w.heap.size w w' := by
 unfold impl_reachOf.f at h;have HG := Aside0.mk hG;clear hG;obtain ⟨b, hb, h⟩ := Option.bind_eq_some_iff.1 h;have HT := Aside0.mk hb;clear hb
 cases b with
 | false =>
  rw [if_neg Bool.false_ne_true] at h
  simp only [Option.some.injEq, Prod.mk.injEq] at h
  obtain ⟨rfl, rfl, rfl, rfl, rfl⟩ := h
  go_enter Tryz.func26, Tryz.ntmps26
  go_wp2_with (first
   | ((with_reducible refine gate_dst (N := 2) rfl ?_); refine box_event ?hg (N := 2) ?hd (cs := #[.slice none 0 0, .slice none 0 0, .slice none 0 0, .slice none 0 0]) (t := 46) ?hr ?_; (case hd => rfl); (case hg => rfl); (case hr => first | (go_simp; done) | (go_simp; rfl)); intro gb hg w1 hbox hb; (have HGE := Aside0.mk (show w.heap.size ≤ gb by rw [hg]; exact Nat.le_refl _)); (have HB1 := Aside0.mk hb); (have HK := Aside0.mk hbox); clear hbox hb hg)
   | (go_at_call 27; refine (impl_IsTray.calls k a0 false _ (GoodW.below HG.out HB1.out) HT.out).mono ?_; rintro e w2 ⟨rfl, hb2⟩; (have HK2 := Aside0.mk ((hb2.block gb (blk_lt HK.out)).trans HK.out)); (have HB2 := Aside0.mk (below_then HB1.out HB1.out.size hb2)); clear hb2 HK HB1; (have z0 := (blk_cell HK2.out 0).trans rfl); (have z1 := (blk_cell HK2.out 1).trans rfl); (have z2 := (blk_cell HK2.out 2).trans rfl); (have z3 := (blk_cell HK2.out 3).trans rfl); (have f0 := blk_frozen HK2.out 0); (have f1 := blk_frozen HK2.out 1); (have f2 := blk_frozen HK2.out 2); (have f3 := blk_frozen HK2.out 3)))
  refine bodyPost_ret (results_ct rfl _ _ gb 46 #[.slice none 0 0, .slice none 0 0, .slice none 0 0, .slice none 0 0] (0, 0) _ rfl (by refine blk_put (cs := #[.slice none 0 0, .slice none 0 0, .slice none 0 0, .slice none 0 0]) ?_ 3 _ rfl; refine blk_put (cs := #[.slice none 0 0, .slice none 0 0, .slice none 0 0, .slice none 0 0]) ?_ 2 _ rfl; refine blk_put (cs := #[.slice none 0 0, .slice none 0 0, .slice none 0 0, .slice none 0 0]) ?_ 1 _ rfl; refine blk_put (cs := #[.slice none 0 0, .slice none 0 0, .slice none 0 0, .slice none 0 0]) ?_ 0 _ rfl; exact HK2.out) Tryz.underlying46 rfl (by kernel_rfl)) rfl ?_
  exact ⟨_, _, _, _, rfl, Kd.R_nil _ _ _ _ _, Kd.R_nil _ _ _ _ _, Kd.S_nil _ _ _ _ _, Kd.R_nil _ _ _ _ _, below_set (below_set (below_set (below_set HB2.out HGE.out) HGE.out) HGE.out) HGE.out⟩
 | true =>
  rw [if_pos rfl] at h
  split at h
  case isFalse => cases h
  rename_i hsz
  have H := Aside0.mk h;have HSZ := Aside0.mk hsz;clear h hsz
  go_enter Tryz.func26, Tryz.ntmps26
  go_wp2_with (first
   | ((with_reducible refine gate_dst (N := 2) rfl ?_); refine box_event ?hg (N := 2) ?hd (cs := #[.slice none 0 0, .slice none 0 0, .slice none 0 0, .slice none 0 0]) (t := 46) ?hr ?_; (case hd => rfl); (case hg => rfl); (case hr => first | (go_simp; done) | (go_simp; rfl)); intro gb hg w1 hbox hb; (have HGE := Aside0.mk (show w.heap.size ≤ gb by rw [hg]; exact Nat.le_refl _)); (have HB1 := Aside0.mk hb); (have HK := Aside0.mk hbox); clear hbox hb hg)
   | (go_at_call 27; refine (impl_IsTray.calls k a0 true _ (GoodW.below HG.out HB1.out) HT.out).mono ?_; rintro e w2 ⟨rfl, hb2⟩; (have HK2 := Aside0.mk ((hb2.block gb (blk_lt HK.out)).trans HK.out)); (have HB2 := Aside0.mk (below_then HB1.out HB1.out.size hb2)); clear hb2 HK HB1)
   | ((with_reducible refine gate_dst (N := 19) rfl ?_); refine R_litG Kd.string w.heap.size 9 ?hg (N := 19) ?hd (xs := [a0]) (inner := [.string a0]) (ok := fun k_ => upo (fun _ => 0) w2.heap.size 1 k_ = 1) (okp := fun _ => False) ?hr ?hp (fun _ hk => hk.elim) (upo_new (Nat.le_refl _)) HB2.out HB2.out.size (by simp) ?_; (case hd => rfl); (case hg => first | rfl | decide | (simp [Region.wanted, yielded]; done) | (go_simp; done)); (case hr => first | (go_simp; done) | (go_simp; rfl)); (case hp => exact (Reps.one (show Kd.M Kd.string _ _ _ (a0) [.string a0] from rfl) (Reps.none _ _))); intro vN w3 hoN hbN hgN _; obtain ⟨A1, c1, rfl⟩ := Kd.R_slice hoN; (have HP1 := Aside0.mk hoN); (have HB19 := Aside0.mk hbN); (have HK19 := Aside0.mk (blk_grown HK2.out hgN (by simp))); clear hbN hgN hoN)
   | ((with_reducible refine gate_dst (N := 20) rfl ?_); refine R_litG (Kd.int .i64) w.heap.size 3 ?hg (N := 20) ?hd (xs := [0]) (inner := [.int .i64 0]) (ok := fun k_ => upo (upo (fun _ => 0) w2.heap.size 1) w3.heap.size 2 k_ = 2) (okp := fun _ => False) ?hr ?hp (fun _ hk => hk.elim) (upo_new (Nat.le_refl _)) HB19.out HB19.out.size (by simp) ?_; (case hd => rfl); (case hg => first | rfl | decide | (simp [Region.wanted, yielded]; done) | (go_simp; done)); (case hr => first | (go_simp; done) | (go_simp; rfl)); (case hp => exact (Reps.one (show Kd.M (Kd.int .i64) _ _ _ (0) [.int .i64 0] from rfl) (Reps.none _ _))); intro vN w4 hoN hbN hgN _; obtain ⟨A2, c2, rfl⟩ := Kd.R_slice hoN; (have HQ1 := Aside0.mk (rowg_other HP1.out hgN (fun _ hk => by cases hk) (by decide : (1 : Nat) ≠ 2))); clear HP1; (have HP1 := HQ1); clear HQ1; (have HP2 := Aside0.mk hoN); (have HB20 := Aside0.mk hbN); (have HK20 := Aside0.mk (blk_grown HK19.out hgN (by simp))); clear hbN hgN hoN)
   | ((with_reducible refine gate_dst (N := 21) rfl ?_); refine R_litG Kd.string w.heap.size 9 ?hg (N := 21) ?hd (xs := [(⟨#[]⟩ : ByteArray)]) (inner := [.string ⟨#[]⟩]) (ok := fun k_ => upo (upo (upo (fun _ => 0) w2.heap.size 1) w3.heap.size 2) w4.heap.size 3 k_ = 3) (okp := fun _ => False) ?hr ?hp (fun _ hk => hk.elim) (upo_new (Nat.le_refl _)) HB20.out HB20.out.size (by simp) ?_; (case hd => rfl); (case hg => first | rfl | decide | (simp [Region.wanted, yielded]; done) | (go_simp; done)); (case hr => first | (go_simp; done) | (go_simp; rfl)); (case hp => exact (Reps.one (show Kd.M Kd.string _ _ _ ((⟨#[]⟩ : ByteArray)) [.string ⟨#[]⟩] from rfl) (Reps.none _ _))); intro vN w5 hoN hbN hgN _; obtain ⟨A3, c3, rfl⟩ := Kd.R_slice hoN; (have HQ1 := Aside0.mk (rowg_other HP1.out hgN (fun _ hk => by cases hk) (by decide : (1 : Nat) ≠ 3))); (have HQ2 := Aside0.mk (rowg_other HP2.out hgN (fun _ hk => by cases hk) (by decide : (2 : Nat) ≠ 3))); clear HP1; clear HP2; (have HP1 := HQ1); clear HQ1; (have HP2 := HQ2); clear HQ2; (have HP3 := Aside0.mk hoN); (have HB21 := Aside0.mk hbN); (have HK21 := Aside0.mk (blk_grown HK20.out hgN (by simp))); clear hbN hgN hoN; (have hmm := run_makeMap (P := Tryz.prog) 68 w5); (have HM5 := Aside0.mk (MPS.made w5)))
   | ((with_reducible refine gate_insert rfl ?_); refine wpList_inserts rfl _ rfl _ _ _ 68 rfl Tryz.underlying68 w5.heap.size 0 (fun _ => none) HM5.out (by omega) a0 0 rfl rfl rfl ⟨Nat.le_trans HSZ.out (by unfold maxLen; omega), by omega, by omega⟩ ?_; intro w6 hm6 hg6; (have HM6 := Aside0.mk hm6); (have HS5 := Aside0.mk HB21.out.size); (have HB5 := Aside0.mk (below_alloc HB21.out (.map #[] 0))); (have HNC := Aside0.mk HM5.out.nc); (have HR1 := Aside0.mk (R_turn (rowg_below HP1.out (below_alloc (Below.refl _ w5) (.map #[] 0)) 0) hg6 HNC.out)); (have HR2 := Aside0.mk (R_turn (rowg_below HP2.out (below_alloc (Below.refl _ w5) (.map #[] 0)) 0) hg6 HNC.out)); (have HR3 := Aside0.mk (R_turn (rowg_below HP3.out (below_alloc (Below.refl _ w5) (.map #[] 0)) 0) hg6 HNC.out)); (have HB6 := Aside0.mk (HB5.out.grown hg6 HB5.out.size (fun k_ e => by cases e; exact HS5.out))); (have HK6 := Aside0.mk (blk_turn (blk_alloc HK21.out (.map #[] 0)) hg6 HNC.out)); clear HP1 HP2 HP3 hm6 hg6 hmm HM5 HB5 HNC)
   | ((with_reducible refine gate_dst (N := 4) rfl ?_); refine box_event ?hg (N := 4) ?hd (cs := #[.slice none 0 0, .slice none 0 0, .slice none 0 0, .slice none 0 0]) (t := 46) ?hr ?_; (case hd => rfl); (case hg => rfl); (case hr => first | (go_simp; done) | (go_simp; rfl)); intro gr hg w7 hbox hb; (have HGR := Aside0.mk (show w6.heap.size ≤ gr by rw [hg]; exact Nat.le_refl _)); (have HB7 := Aside0.mk (below_then HB6.out HB6.out.size hb)); (have HM7 := Aside0.mk (HM6.out.below hb)); (have HT1 := Aside0.mk (Kd.R_below HR1.out hb)); (have HT2 := Aside0.mk (Kd.R_below HR2.out hb)); (have HT3 := Aside0.mk (Kd.R_below HR3.out hb)); (have HKb := Aside0.mk ((hb.block gb (blk_lt HK6.out)).trans HK6.out)); (have HGW := Aside0.mk (show w5.heap.size ≤ gr by have h1 := HM6.out.lt; have h2 := HGR.out; omega)); (have HNE := Aside0.mk (show gb ≠ gr ∧ w5.heap.size ≠ gr ∧ w.heap.size ≤ gr ∧ w.heap.size ≤ gb ∧ w.heap.size ≤ w5.heap.size from ⟨fun e => by have h1 := blk_lt HK6.out; have h2 := HGR.out; omega, fun e => by have h1 := HM6.out.lt; have h2 := HGR.out; omega, Nat.le_trans HB6.out.size HGR.out, HGE.out, HS5.out⟩)); (have HK7 := Aside0.mk hbox); (have z0 := (blk_cell HK7.out 0).trans rfl); (have z1 := (blk_cell HK7.out 1).trans rfl); (have z2 := (blk_cell HK7.out 2).trans rfl); (have z3 := (blk_cell HK7.out 3).trans rfl); (have f0 := blk_frozen HK7.out 0); (have f1 := blk_frozen HK7.out 1); (have f2 := blk_frozen HK7.out 2); (have f3 := blk_frozen HK7.out 3); clear hbox hb hg HR1 HR2 HR3))
  obtain ⟨w8, hw⟩ : ∃ w8, w8 = (((w7.setCell ⟨gr, 0, none⟩ (.slice A1 1 c1)).setCell ⟨gr, 1, none⟩ (.slice A2 1 c2)).setCell ⟨gr, 2, none⟩ (.slice none 0 0)).setCell ⟨gr, 3, none⟩ (.slice A3 1 c3) := ⟨_, rfl⟩
  rw [← hw]
  have HB8 := Aside0.mk (show Below w.heap.size w w8 by rw [hw]; exact below_set (below_set (below_set (below_set HB7.out HNE.out.2.2.1) HNE.out.2.2.1) HNE.out.2.2.1) HNE.out.2.2.1)
  have HRG := Aside0.mk (show ∃ o, RG w8 w.heap.size gb gr 0 w5.heap.size 1 #[.slice A1 1 c1, .slice A2 1 c2, .slice none 0 0, .slice A3 1 c3] #[] (updS (fun _ => none) a0.data.toList 0) o (.slice A1 1 c1) [a0] (.slice A2 1 c2) [0] (.slice A3 1 c3) [⟨#[]⟩] (.slice none 0 0) [] (.slice none 0 0) [] (.slice none 0 0) [] (.slice none 0 0) [] (.slice none 0 0) [] (.slice none 0 0) [] (.slice none 0 0) [] (.slice none 0 0) [] from ⟨_, by
   rw [hw]
   have h0 : RG w7 w.heap.size gb gr 0 w5.heap.size 1 #[.slice none 0 0, .slice none 0 0, .slice none 0 0, .slice none 0 0] #[] (updS (fun _ => none) a0.data.toList 0) _ (.slice A1 1 c1) [a0] (.slice A2 1 c2) [0] (.slice A3 1 c3) [⟨#[]⟩] (.slice none 0 0) [] (.slice none 0 0) [] (.slice none 0 0) [] (.slice none 0 0) [] (.slice none 0 0) [] (.slice none 0 0) [] (.slice none 0 0) [] (.slice none 0 0) [] := ⟨HK7.out, fun hz => absurd rfl hz, HM7.out, HT1.out, HT2.out, HT3.out, Kd.S_nil _ _ _ _ _, Kd.R_nil _ _ _ _ _, Kd.R_nil _ _ _ _ _, Kd.R_nil _ _ _ _ _, Kd.R_nil _ _ _ _ _, Kd.R_nil _ _ _ _ _, Kd.V_nil _ _ _ _ _, Kd.V_nil _ _ _ _ _, HKb.out, ⟨upo_new HGW.out, upo_new (Nat.le_refl _)⟩, HNE.out⟩
   exact (((h0.cell 0 _ rfl).cell 1 _ rfl).cell 2 _ rfl).cell 3 _ rfl⟩)
  clear hw HM7 HT1 HT2 HT3 HK7 HKb HB7 z0 z1 z2 z3 f0 f1 f2 f3;have HBM := Aside0.mk (show w.heap.size ≤ w5.heap.size from HS5.out)
  go_loopg [6] 301 (fun gg v6 wr => ∃ (i : Nat) (T : List ByteArray) (F : List Int) (N : List (List Int)) (W : List ByteArray) (f : List UInt8 → Option Int) (At Af Aw An : Option Addr) (ct cf cw cn : Nat) (gt : Nat) (cg : Array Value), v6 = .int .i64 i ∧ Aside0 (301 - i ≤ gg ∧ T.length ≤ 300 ∧ F.length = T.length ∧ W.length = T.length ∧ N.length = i ∧ i ≤ T.length) ∧ Aside0 (reO k (301 - i) i T F N W f = some (r1, r2, r3, r4, r5)) ∧ Aside0 (∃ o, RG wr w.heap.size gb gr gt w5.heap.size T.length #[.slice At T.length ct, .slice Af F.length cf, .slice An N.length cn, .slice Aw W.length cw] cg f o (.slice At T.length ct) T (.slice Af F.length cf) F (.slice Aw W.length cw) W (.slice An N.length cn) N (.slice none 0 0) [] (.slice none 0 0) [] (.slice none 0 0) [] (.slice none 0 0) [] (.slice none 0 0) [] (.slice none 0 0) [] (.slice none 0 0) []) ∧ Aside0 (Below w.heap.size w wr))
  case atStart => exact ⟨0, [a0], [0], [], [⟨#[]⟩], _, A1, A2, A3, none, c1, c2, c3, 0, 0, #[], rfl, ⟨by omega, by simp, rfl, rfl, rfl, by simp⟩, H, HRG, HB8⟩
  case round =>
   clear HRG HB8 H;obtain ⟨i, T, F, N, W, f, At, Af, Aw, An, ct, cf, cw, cn, gt, cg, rfl, HI, H, HRG, HB⟩ := hrel
   by_cases hli : i < T.length
   ·have e1 : decide ((i : Int) < (T.length : Int)) = true := decide_eq_true (by omega)
    have e2 : decide (i < T.length) = true := decide_eq_true hli;have H1 := H.out
    rw [show 301 - i = (300 - i) + 1 by have := HI.out; omega] at H1
    unfold reO at H1
    rw [if_pos hli] at H1
    obtain ⟨⟨gw, gh, gc⟩, hrd, H1⟩ := Option.bind_eq_some_iff.1 H1;obtain ⟨o, hg⟩ := HRG.out;obtain ⟨ad, e, hx⟩ := Kd.at_string (Kd.R_reads' hg.t).2.2 (i : Int) (by omega) (by omega)
    cases e
    have hxi : wr.cell? (ad.add i) = some (.string (rdOf ByteArray.empty T (i : Int))) := hx;clear hx;have z0 := (blk_cell hg.blk 0).trans rfl;have HRO := Aside0.mk hg;have HIN := Aside0.mk H1;have HRD := Aside0.mk hrd;have HLI := Aside0.mk hli;clear HRG H H1 hg hrd
    go_wp2_with (first
     | (go_at_call 36; refine (impl_read.calls _ gw gh gc _ (GoodW.below HG.out HB.out) HRD.out).mono ?_; rintro e w9 ⟨v9, rfl, ho9, hb9⟩; obtain ⟨A9, c9, rfl⟩ := Kd.V_slice ho9; (have HB9 := Aside0.mk (below_then HB.out HB.out.size hb9)); (have HR9 := Aside0.mk (HRO.out.seen_g hb9 (Kd.V_mono ho9 fun k_ hk_ => upo_new hk_))); clear ho9 hb9 HB HRO z0 hxi)
     | ((with_reducible refine gate_dst (N := 39) rfl ?_); refine R_litG (Kd.int .i64) w.heap.size 3 ?hg (N := 39) ?hd (xs := []) (inner := []) (ok := fun k_ => upo (upo o wr.heap.size 10) w9.heap.size 5 k_ = 5) (okp := fun _ => False) ?hr ?hp (fun _ hk => hk.elim) (upo_new (Nat.le_refl _)) HB9.out HB9.out.size (by simp) ?_; (case hd => rfl); (case hg => first | rfl | decide | (simp [Region.wanted, yielded]; done) | (go_simp; done)); (case hr => first | (go_simp; done) | (go_simp; rfl)); (case hp => exact (Reps.none _ _)); intro vN w10 hoN hbN hgN _; obtain ⟨A10, c10, rfl⟩ := Kd.R_slice hoN; (have HB10 := Aside0.mk hbN); (have HR10 := Aside0.mk (HR9.out.made_x hgN hoN)); clear hoN hbN hgN HR9 HB9)
     | ((with_reducible refine gate_dst (N := 7) rfl ?_); refine box_event ?hg (N := 7) ?hd (cs := #[.int .i64 0, .int .i64 0, .slice none 0 0]) (t := 64) ?hr ?_; (case hd => rfl); (case hg => rfl); (case hr => first | (go_simp; done) | (go_simp; rfl)); intro gt1 hg w11 hbox hb; (have HGT := Aside0.mk (show w10.heap.size ≤ gt1 by rw [hg]; exact Nat.le_refl _)); (have HB11 := Aside0.mk (below_then HB10.out HB10.out.size hb)); (have HR11 := Aside0.mk ((HR10.out.below hb 0).tray hbox)); (have HGW1 := Aside0.mk (Nat.le_trans HB10.out.size HGT.out)); (have y0 := (blk_cell hbox 0).trans rfl); (have y1 := (blk_cell hbox 1).trans rfl); (have y2 := (blk_cell hbox 2).trans rfl); (have f0 := blk_frozen hbox 0); (have f1 := blk_frozen hbox 1); (have f2 := blk_frozen hbox 2); clear hbox hb hg HR10 HB10)
     | ((with_reducible refine gate_store (t := 64) (p := 7) rfl ?_); refine store_event (t := 64) (p := 7) (v := ?vo) (w1 := (((w11.setCell ⟨gt1, 0, none⟩ (.int .i64 gw)).setCell ⟨gt1, 1, none⟩ (.int .i64 gh)).setCell ⟨gt1, 2, none⟩ (.slice A9 gc.length c9))) ?hg ?ho ?hn ?hr ?_; (case ho => rfl); (case hg => rfl); (case hn => rfl); (case hr => first | (go_simp; done) | (go_simp; rfl)); intro w12 hw; (have HB12 := Aside0.mk (show Below w.heap.size w w12 by rw [hw]; exact below_set (below_set (below_set HB11.out HGW1.out) HGW1.out) HGW1.out)); (have hq := ((HR11.out.tcell (by simp) (upo_new HGT.out) 0 (.int .i64 gw) rfl).tcell (by simp) (upo_new HGT.out) 1 (.int .i64 gh) rfl).tcell (by simp) (upo_new HGT.out) 2 (.slice A9 gc.length c9) rfl); rw [← hw] at hq; (have HR12 := Aside0.mk hq); clear hq hw HB11 HR11 y0 y1 y2 f0 f1 f2)
     | ((with_reducible refine gate_dst (N := 40) rfl ?_); refine litB.step rfl rfl (N1 := 40) (N2 := 41) rfl rfl 36 5 _ rfl Tryz.underlying36 Tryz.underlying5 [117, 114, 100, 108] (by decide) ?hr rfl rfl ?_; (case hr => first | (go_simp; done) | (go_simp; rfl)); intro v13 w13 hv13 hb13; obtain ⟨A13, c13, rfl⟩ := Kd.V_slice hv13; (have HB13 := Aside0.mk (below_then HB12.out HB12.out.size hb13)); (have HR13 := Aside0.mk (HR12.out.seen_d hb13 (Kd.V_mono hv13 fun k_ hk_ => upo_new hk_))); clear hv13 hb13 HB12 HR12))
    have HIN0 := Aside0.mk (show N.length = i ∧ 301 - i ≤ gk ∧ i ≤ 300 from ⟨HI.out.2.2.2.2.1, HI.out.1, by have := HI.out; have := HLI.out; omega⟩);have HRX := Aside0.mk (show ∃ o, RG w13 w.heap.size gb gr gt1 w5.heap.size T.length #[.slice (some ad) T.length ct, .slice Af F.length cf, .slice An N.length cn, .slice Aw W.length cw] #[.int .i64 gw, .int .i64 gh, .slice A9 gc.length c9] f o (.slice (some ad) T.length ct) T (.slice Af F.length cf) F (.slice Aw W.length cw) W (.slice An N.length cn) N (.slice A10 ([] : List Int).length c10) [] (.slice none 0 0) [] (.slice none 0 0) [] (.slice none 0 0) [] (.slice none 0 0) [] (.slice A9 gc.length c9) gc (.slice A13 ([117, 114, 100, 108] : List Int).length c13) [117, 114, 100, 108] from ⟨_, HR13.out⟩);clear HR13
    go_loopg [8, 43] 4 (fun gg v8 v43 wr => ∃ (dd : Nat) (T : List ByteArray) (F : List Int) (W : List ByteArray) (f : List UInt8 → Option Int) (X : List Int) (At Af Aw Ax : Option Addr) (ct cf cw cx : Nat), v8 = .slice Ax X.length cx ∧ v43 = .int .i64 dd ∧ Aside0 ((dd ≤ 4 ∧ 4 - dd ≤ gg) ∧ T.length ≤ 300 ∧ F.length = T.length ∧ W.length = T.length ∧ i < T.length ∧ X.length = dd) ∧ Aside0 (reI k (fun T F W f nx => reO k (300 - i) (i + 1) T F (N ++ [nx]) W f) i gw gh gc (([117, 114, 100, 108] : List Int).drop dd) T F W f X = some (r1, r2, r3, r4, r5)) ∧ Aside0 (∃ o, RG wr w.heap.size gb gr gt1 w5.heap.size T.length #[.slice At T.length ct, .slice Af F.length cf, .slice An N.length cn, .slice Aw W.length cw] #[.int .i64 gw, .int .i64 gh, .slice A9 gc.length c9] f o (.slice At T.length ct) T (.slice Af F.length cf) F (.slice Aw W.length cw) W (.slice An N.length cn) N (.slice Ax X.length cx) X (.slice none 0 0) [] (.slice none 0 0) [] (.slice none 0 0) [] (.slice none 0 0) [] (.slice A9 gc.length c9) gc (.slice A13 ([117, 114, 100, 108] : List Int).length c13) [117, 114, 100, 108]) ∧ Aside0 (Below w.heap.size w wr))
    case atStart => exact ⟨0, T, F, W, f, [], some ad, Af, Aw, A10, ct, cf, cw, c10, rfl, rfl, ⟨⟨by omega, by omega⟩, HI.out.2.1, HI.out.2.2.1, HI.out.2.2.2.1, HLI.out, rfl⟩, HIN, HRX, HB13⟩
    case round =>
     clear HRX HB13 HIN HI HLI e1 e2;obtain ⟨dd, T, F, W, f, X, At, Af, Aw, Ax, ct, cf, cw, cx, rfl, rfl, HI, H, HRG, HB⟩ := hrel
     by_cases hdl : dd < 4
     ·have e1 : decide ((dd : Int) < 4) = true := decide_eq_true (by omega)
      have p1 : (0 ≤ (dd : Int)) = True := eq_true (by omega);have p2 : ((dd : Int) < 4) = True := eq_true (by omega);have hsp := H.out
      rw [drop_at ([117, 114, 100, 108] : List Int) 0 dd (by simpa using hdl)] at hsp
      obtain ⟨o, hg⟩ := HRG.out;obtain ⟨ad3, e3, hx3⟩ := Kd.at_int (Kd.V_reads' hg.d).2.2 (dd : Int) (by omega) (by simp; omega)
      cases e3
      rw [Int.toNat_natCast] at hx3
      rw [show rd ([117, 114, 100, 108] : List Int) (dd : Int) = ([117, 114, 100, 108] : List Int).getD dd 0 from by unfold rd; rw [Int.toNat_natCast]] at hx3
      generalize ([117, 114, 100, 108] : List Int).getD dd 0 = d at hx3 hsp
      rw [reI] at hsp
      obtain ⟨⟨tw, th, tc⟩, htl, hsp⟩ := Option.bind_eq_some_iff.1 hsp;obtain ⟨u, hu, hsp⟩ := Option.bind_eq_some_iff.1 hsp
      split at hsp
      case isFalse => cases hsp
      rename_i hsz
      have hsz0 := hsz;have HTL := Aside0.mk htl;have HTX := Aside0.mk hu;have HSU := Aside0.mk (show u.size ≤ maxLen from Nat.le_trans hsz.1 (by unfold maxLen; omega));have HDL := Aside0.mk hdl;have HRO := Aside0.mk hg;have z0 := (blk_cell (hg.gbk (by simp)) 0).trans rfl;have z1 := (blk_cell (hg.gbk (by simp)) 1).trans rfl;have z2 := (blk_cell (hg.gbk (by simp)) 2).trans rfl
      cases hf : f u.data.toList with
      | some c =>
       rw [hf] at hsp
       have HF := Aside0.mk hf;have HNX := Aside0.mk hsp;clear htl hu hsp hf hg HRG H hdl hsz
       go_wp2_with (first
        | (go_at_call 40; refine (impl_tray_tilted.calls k gw gh A9 c9 gc d tw th tc _ (Kd.V_reads' HRO.out.g).2.2 (Kd.V_reads' HRO.out.g).2.1 HTL.out).mono ?_; rintro e w14 ⟨v14, rfl, ho14, hb14⟩; obtain ⟨A14, c14, rfl⟩ := Kd.R_slice ho14; (have HV14 := Aside0.mk ho14); (have HB14 := Aside0.mk (below_then HB.out HB.out.size hb14)); (have HR14 := Aside0.mk (HRO.out.below hb14 0)); clear ho14 hb14 HB HRO z0 z1 z2 hx3)
        | (go_at_call 41; refine (impl_tray_text.calls tw th A14 c14 tc u _ (Kd.R_reads' HV14.out).2.2 (Kd.R_reads' HV14.out).2.1 HTX.out).mono ?_; rintro e w15 ⟨rfl, hb15⟩; (have HB15 := Aside0.mk (below_then HB14.out HB14.out.size hb15)); (have HR15 := Aside0.mk (HR14.out.below hb15 0)); clear hb15 HB14 HR14 HV14)
        | (at_lookup; refine wpList_looks_of rfl _ rfl _ _ 68 rfl Tryz.underlying68 w5.heap.size T.length f HR15.out.map u rfl rfl HSU.out c true (by rw [HF.out]; rfl) (by rw [HF.out]; rfl) ?_)
        | ((with_reducible refine gate_dst (N := 102) rfl ?_); refine Kd.R_append (Kd.int .i64) (w0 := w) w.heap.size rfl (.tmp 99) (.tmp 101) 39 3 (.int .i64 0) 8 rfl Tryz.underlying39 info3 rfl (by decide) (by omega) (.slice Ax X.length cx) X c [.int .i64 c] (fun k_ => upo (upo (upo o wr.heap.size 0) w14.heap.size 0) w15.heap.size 5 k_ = 5) (fun _ => False) rfl rfl ?aP (fun _ hk => hk.elim) ?aF ?aO ?aB ?aS ?aL ?_; (case aP => exact rfl); (case aB => exact HB15.out); (case aF => exact (fun _ hk => upo_new hk)); (case aO => exact rowg_at HR15.out.x 5); (case aS => exact HB15.out.size); (case aL => have h1 := HI.out; omega); intro v16 w16 ho16 hb16 hg16 _; obtain ⟨A16, c16, rfl⟩ := Kd.R_slice ho16; (have HR16 := Aside0.mk (HR15.out.turn_x hg16 ho16)); (have HB16 := Aside0.mk hb16); clear ho16 hb16 hg16 HB15 HR15))
       go_roundg (4 - (dd + 1))
       case measure => have := HI.out; have := HDL.out; omega
       case rel => exact ⟨dd + 1, T, F, W, f, X ++ [c], At, Af, Aw, A16, ct, cf, cw, c16, by first | rfl | simp, by first | rfl | rw [wrap64_nat dd (by have := HDL.out; omega)] | simp, ⟨⟨by have := HDL.out; omega, Nat.le_refl _⟩, HI.out.2.1, HI.out.2.2.1, HI.out.2.2.2.1, HI.out.2.2.2.2.1, by rw [List.length_append, List.length_singleton, HI.out.2.2.2.2.2]⟩, HNX, ⟨_, HR16.out⟩, HB16⟩
      | none =>
       rw [hf] at hsp
       simp only [] at hsp
       have HF := Aside0.mk hf
       by_cases h3 : T.length = 300
       ·rw [if_pos h3] at hsp
        simp only [Option.some.injEq, Prod.mk.injEq] at hsp
        obtain ⟨rfl, rfl, rfl, rfl, rfl⟩ := hsp;have e3 : decide ((T.length : Int) = 300) = true := decide_eq_true (by omega)
        have e4 : ((T.length : Int) == 300) = true := by simp [h3]
        clear htl hu hf hg HRG H hdl hsz
        go_wp2_with (first
         | (go_at_call 40; refine (impl_tray_tilted.calls k gw gh A9 c9 gc d tw th tc _ (Kd.V_reads' HRO.out.g).2.2 (Kd.V_reads' HRO.out.g).2.1 HTL.out).mono ?_; rintro e w14 ⟨v14, rfl, ho14, hb14⟩; obtain ⟨A14, c14, rfl⟩ := Kd.R_slice ho14; (have HV14 := Aside0.mk ho14); (have HB14 := Aside0.mk (below_then HB.out HB.out.size hb14)); (have HR14 := Aside0.mk (HRO.out.below hb14 0)); clear ho14 hb14 HB HRO z0 z1 z2 hx3)
         | (go_at_call 41; refine (impl_tray_text.calls tw th A14 c14 tc u _ (Kd.R_reads' HV14.out).2.2 (Kd.R_reads' HV14.out).2.1 HTX.out).mono ?_; rintro e w15 ⟨rfl, hb15⟩; (have HB15 := Aside0.mk (below_then HB14.out HB14.out.size hb15)); (have HR15 := Aside0.mk (HR14.out.below hb15 0)); clear hb15 HB14 HR14 HV14; (have y0 := (blk_cell HR15.out.blk 0).trans rfl); (have g0 := (blk_cell HR15.out.rbk 0).trans rfl); (have g1 := (blk_cell HR15.out.rbk 1).trans rfl); (have g2 := (blk_cell HR15.out.rbk 2).trans rfl); (have g3 := (blk_cell HR15.out.rbk 3).trans rfl); (have f0 := blk_frozen HR15.out.rbk 0); (have f1 := blk_frozen HR15.out.rbk 1); (have f2 := blk_frozen HR15.out.rbk 2); (have f3 := blk_frozen HR15.out.rbk 3))
         | (at_lookup; refine wpList_looks_of rfl _ rfl _ _ 68 rfl Tryz.underlying68 w5.heap.size T.length f HR15.out.map u rfl rfl HSU.out 0 false (by rw [HF.out]; rfl) (by rw [HF.out]; rfl) ?_))
        refine bodyPost_ret (results_ct rfl _ _ gb 46 #[.slice none 0 0, .slice none 0 0, .slice none 0 0, .slice none 0 0] (0, 0) _ rfl (by refine blk_put (cs := #[.slice none 0 0, .slice none 0 0, .slice none 0 0, .slice none 0 0]) ?_ 3 _ rfl; refine blk_put (cs := #[.slice none 0 0, .slice none 0 0, .slice none 0 0, .slice none 0 0]) ?_ 2 _ rfl; refine blk_put (cs := #[.slice none 0 0, .slice none 0 0, .slice none 0 0, .slice none 0 0]) ?_ 1 _ rfl; refine blk_put (cs := #[.slice none 0 0, .slice none 0 0, .slice none 0 0, .slice none 0 0]) ?_ 0 _ rfl; exact HR15.out.rbk) Tryz.underlying46 rfl (by kernel_rfl)) rfl ?_
        exact ⟨_, _, _, _, rfl, Kd.R_nil _ _ _ _ _, Kd.R_nil _ _ _ _ _, Kd.S_nil _ _ _ _ _, Kd.R_nil _ _ _ _ _, below_set (below_set (below_set (below_set HB15.out HGE.out) HGE.out) HGE.out) HGE.out⟩
       ·rw [if_neg h3] at hsp
        have e3 : decide ((T.length : Int) = 300) = false := decide_eq_false (by omega)
        have e4 : ((T.length : Int) == 300) = false := by simp; omega
        have HNX := Aside0.mk hsp;clear htl hu hsp hf hg HRG H hdl hsz
        go_wp2_with (first
         | (go_at_call 40; refine (impl_tray_tilted.calls k gw gh A9 c9 gc d tw th tc _ (Kd.V_reads' HRO.out.g).2.2 (Kd.V_reads' HRO.out.g).2.1 HTL.out).mono ?_; rintro e w14 ⟨v14, rfl, ho14, hb14⟩; obtain ⟨A14, c14, rfl⟩ := Kd.R_slice ho14; (have HV14 := Aside0.mk ho14); (have HB14 := Aside0.mk (below_then HB.out HB.out.size hb14)); (have HR14 := Aside0.mk (HRO.out.below hb14 0)); clear ho14 hb14 HB HRO z0 z1 z2 hx3)
         | (go_at_call 41; refine (impl_tray_text.calls tw th A14 c14 tc u _ (Kd.R_reads' HV14.out).2.2 (Kd.R_reads' HV14.out).2.1 HTX.out).mono ?_; rintro e w15 ⟨rfl, hb15⟩; (have HB15 := Aside0.mk (below_then HB14.out HB14.out.size hb15)); (have HR15 := Aside0.mk (HR14.out.below hb15 0)); clear hb15 HB14 HR14 HV14; (have y0 := (blk_cell HR15.out.blk 0).trans rfl))
         | (at_lookup; refine wpList_looks_of rfl _ rfl _ _ 68 rfl Tryz.underlying68 w5.heap.size T.length f HR15.out.map u rfl rfl HSU.out 0 false (by rw [HF.out]; rfl) (by rw [HF.out]; rfl) ?_)
         | (at_mapUpdate; refine wpList_puts rfl _ rfl _ _ _ 68 rfl Tryz.underlying68 w5.heap.size T.length f HR15.out.map (by have := HI.out; omega) u (T.length : Int) rfl rfl rfl ⟨HSU.out, by omega, by have := HI.out; omega⟩ ?_; intro w17 hm17 hg17; (have HR17 := Aside0.mk (HR15.out.mapped hg17 hm17)); (have HB17 := Aside0.mk (HB15.out.grown hg17 HB15.out.size (fun k_ e => by cases e; exact HBM.out))); clear hm17 hg17 HR15 HB15 y0))
        have hiW : i < W.length := by have := HI.out; omega
        have hiF : i < F.length := by have := HI.out; omega
        have HTL := Aside0.mk (show T.length ≤ 300 ∧ F.length = T.length ∧ W.length = T.length from ⟨HI.out.2.1, HI.out.2.2.1, HI.out.2.2.2.1⟩);obtain ⟨adF, eF, hxF⟩ := Kd.at_int (Kd.R_reads' HR17.out.fa).2.2 (i : Int) (by omega) (by omega);obtain ⟨adW, eW, hxW⟩ := Kd.at_string (Kd.R_reads' HR17.out.wd).2.2 (i : Int) (by omega) (by omega);subst eF eW;clear hxF hxW
        have hct : ¬ 9223372036854775807 < (rdOf ByteArray.empty W (i : Int)).size + (strOfNums [d]).size := by have h1 := hsz0.2; have h2 : (strOfNums [d]).size = 1 := rfl; omega
        have HG := HR17.out;have HB := HB17;generalize upo (upo o wr.heap.size 0) w14.heap.size 0 = o at HG;have hHeld := held18 HG hiW
        refine start_ (n := 34) (S := fun w' => w'.cell? ⟨gr, 0, none⟩ = some (.slice At T.length ct) ∧ w'.cell? ⟨gr, 1, none⟩ = some (.slice (some adF) F.length cf) ∧ w'.cell? ⟨gr, 3, none⟩ = some (.slice (some adW) W.length cw) ∧ w'.cell? (adW.add i) = some (.string (rdOf ByteArray.empty W (i : Int)))) (ds := [27, 29, 31, 33]) (bA 0) (by kernel_rfl) rfl rfl ⟨(held18 HG hiW).1, (held18 HG hiW).2.1, (held18 HG hiW).2.2.1, (held18 HG hiW).2.2.2⟩ (fun hHeld => ?_)
        refine pure_ (i := 0) (N := some 68) (v := ?_) (a' := ?_) (bA 1) rfl rfl (by kernel_rfl) (fun _ _ _ h => h) (Or.inl ⟨by rfl, ?_⟩) ?_ ?_
        rotate_left
        ·intro w'
         go_simp
         with_reducible rfl
        rotate_left
        ·simp only [Act.put, List.setIfInBounds_toArray, List.set_cons_zero, List.set_cons_succ, i64_w, i32_w]
         rfl
        refine pure_ (i := 2) (N := some 70) (v := ?_) (a' := ?_) (bA 5) rfl rfl (by kernel_rfl) (fun _ _ _ h => h) (Or.inl ⟨by rfl, ?_⟩) ?_ ?_
        rotate_left
        ·intro w'
         go_simp
         with_reducible rfl
        rotate_left
        ·simp only [Act.put, List.setIfInBounds_toArray, List.set_cons_zero, List.set_cons_succ, i64_w, i32_w]
         rfl
        refine pure_ (i := 5) (N := some 73) (v := ?_) (a' := ?_) (bA 37) rfl rfl (by kernel_rfl) (fun _ _ _ h => h) (Or.inl ⟨by rfl, ?_⟩) ?_ ?_
        rotate_left
        ·intro w'
         go_simp
         with_reducible rfl
        rotate_left
        ·simp only [Act.put, List.setIfInBounds_toArray, List.set_cons_zero, List.set_cons_succ, i64_w, i32_w]
         rfl
        refine pure_ (i := 7) (N := some 75) (v := ?_) (a' := ?_) (bA 165) rfl rfl (by kernel_rfl) (fun _ _ _ h => h) (Or.inl ⟨by rfl, ?_⟩) ?_ ?_
        rotate_left
        ·intro w'
         go_simp
         with_reducible rfl
        rotate_left
        ·simp only [Act.put, List.setIfInBounds_toArray, List.set_cons_zero, List.set_cons_succ, i64_w, i32_w]
         rfl
        refine pure_ (i := 9) (N := some 77) (v := ?_) (a' := ?_) (bA 677) rfl rfl (by kernel_rfl) (fun _ _ _ h => h) (Or.inl ⟨by rfl, ?_⟩) ?_ ?_
        rotate_left
        ·intro w'
         go_simp
         with_reducible rfl
        rotate_left
        ·simp only [Act.put, List.setIfInBounds_toArray, List.set_cons_zero, List.set_cons_succ, i64_w, i32_w]
         rfl
        refine pure_ (i := 15) (N := some 83) (v := ?_) (a' := ?_) (bA 33445) rfl rfl (by kernel_rfl) (fun _ _ _ h => h) (Or.inl ⟨by rfl, ?_⟩) ?_ ?_
        rotate_left
        ·intro w'
         go_simp
         with_reducible rfl
        rotate_left
        ·simp only [Act.put, List.setIfInBounds_toArray, List.set_cons_zero, List.set_cons_succ, i64_w, i32_w]
         rfl
        refine pure_ (i := 17) (N := some 85) (v := ?_) (a' := ?_) (bA 164517) rfl rfl (by kernel_rfl) (fun _ _ _ h => h) (Or.inl ⟨by rfl, ?_⟩) ?_ ?_
        rotate_left
        ·intro w'
         go_simp
         with_reducible rfl
        rotate_left
        ·simp only [Act.put, List.setIfInBounds_toArray, List.set_cons_zero, List.set_cons_succ, i64_w, i32_w]
         rfl
        refine pure_ (i := 19) (N := some 87) (v := ?_) (a' := ?_) (bA 688805) rfl rfl (by kernel_rfl) (fun _ _ _ h => h) (Or.inl ⟨by rfl, ?_⟩) ?_ ?_
        rotate_left
        ·intro w'
         go_simp
         with_reducible rfl
        rotate_left
        ·simp only [Act.put, List.setIfInBounds_toArray, List.set_cons_zero, List.set_cons_succ, i64_w, i32_w]
         rfl
        refine pure_ (i := 22) (N := some 90) (v := ?_) (a' := ?_) (bA 4883109) rfl rfl (by kernel_rfl) (fun _ _ _ h => h) (Or.inl ⟨by rfl, ?_⟩) ?_ ?_
        rotate_left
        ·intro w'
         go_simp
         with_reducible rfl
        rotate_left
        ·simp only [Act.put, List.setIfInBounds_toArray, List.set_cons_zero, List.set_cons_succ, i64_w, i32_w]
         rfl
        refine take_ (i := 1) (N := some 69) (v := ?_) (a' := ?_) (bA 4883111) rfl rfl (by kernel_rfl) (fun _ _ _ h => h) (Or.inl ⟨by rfl, ?_⟩) hHeld ?_ ?_
        rotate_left
        ·rintro w' ⟨s0, s1, s2, s3⟩
         go_simp
         with_reducible rfl
        rotate_left
        ·simp only [Act.put, List.setIfInBounds_toArray, List.set_cons_zero, List.set_cons_succ, i64_w, i32_w]
         rfl
        refine take_ (i := 6) (N := some 74) (v := ?_) (a' := ?_) (bA 4883175) rfl rfl (by kernel_rfl) (fun _ _ _ h => h) (Or.inl ⟨by rfl, ?_⟩) hHeld ?_ ?_
        rotate_left
        ·rintro w' ⟨s0, s1, s2, s3⟩
         go_simp
         with_reducible rfl
        rotate_left
        ·simp only [Act.put, List.setIfInBounds_toArray, List.set_cons_zero, List.set_cons_succ, i64_w, i32_w]
         rfl
        refine take_ (i := 8) (N := some 76) (v := ?_) (a' := ?_) (bA 4883431) rfl rfl (by kernel_rfl) (fun _ _ _ h => h) (Or.inl ⟨by rfl, ?_⟩) hHeld ?_ ?_
        rotate_left
        ·rintro w' ⟨s0, s1, s2, s3⟩
         go_simp
         with_reducible rfl
        rotate_left
        ·simp only [Act.put, List.setIfInBounds_toArray, List.set_cons_zero, List.set_cons_succ, i64_w, i32_w]
         rfl
        refine pure_ (i := 10) (N := some 78) (v := ?_) (a' := ?_) (bA 4884455) rfl rfl (by kernel_rfl) (fun _ _ _ h => h) (Or.inl ⟨by rfl, ?_⟩) ?_ ?_
        rotate_left
        ·intro w'
         go_simp
         with_reducible rfl
        rotate_left
        ·simp only [Act.put, List.setIfInBounds_toArray, List.set_cons_zero, List.set_cons_succ, i64_w, i32_w]
         rfl
        refine take_ (i := 16) (N := some 84) (v := ?_) (a' := ?_) (bA 4949991) rfl rfl (by kernel_rfl) (fun _ _ _ h => h) (Or.inl ⟨by rfl, ?_⟩) hHeld ?_ ?_
        rotate_left
        ·rintro w' ⟨s0, s1, s2, s3⟩
         go_simp
         with_reducible rfl
        rotate_left
        ·simp only [Act.put, List.setIfInBounds_toArray, List.set_cons_zero, List.set_cons_succ, i64_w, i32_w]
         rfl
        refine take_ (i := 18) (N := some 86) (v := ?_) (a' := ?_) (bA 5212135) rfl rfl (by kernel_rfl) (fun _ _ _ h => h) (Or.inl ⟨by rfl, ?_⟩) hHeld ?_ ?_
        rotate_left
        ·rintro w' ⟨s0, s1, s2, s3⟩
         go_simp
         with_reducible rfl
        rotate_left
        ·simp only [Act.put, List.setIfInBounds_toArray, List.set_cons_zero, List.set_cons_succ, i64_w, i32_w]
         rfl
        refine pure_ (i := 20) (N := some 88) (v := ?_) (a' := ?_) (bA 6260711) rfl rfl (by kernel_rfl) (fun _ _ _ h => h) (Or.inl ⟨by rfl, ?_⟩) ?_ ?_
        rotate_left
        ·intro w'
         go_simp
         with_reducible rfl
        rotate_left
        ·simp only [Act.put, List.setIfInBounds_toArray, List.set_cons_zero, List.set_cons_succ, i64_w, i32_w]
         rfl
        refine take_ (i := 21) (N := some 89) (v := ?_) (a' := ?_) (bA 8357863) rfl rfl (by kernel_rfl) (fun _ _ _ h => h) (Or.inl ⟨by rfl, ?_⟩) hHeld ?_ ?_
        rotate_left
        ·rintro w' ⟨s0, s1, s2, s3⟩
         go_simp
         with_reducible rfl
        rotate_left
        ·simp only [Act.put, List.setIfInBounds_toArray, List.set_cons_zero, List.set_cons_succ, i64_w, i32_w]
         rfl
        refine join_ (σ := Value × Value × Value × Value × Value × Value) 6 (bA 402653183) (fun s_ => [(71, s_.1), (72, s_.2.1), (79, .int .i64 (rd F (i : Int))), (80, .int .i64 (wrap64 (rd F (i : Int) + 1))), (81, s_.2.2.1), (82, s_.2.2.2.1), (91, s_.2.2.2.2.1), (92, .string (strOfNums [d])), (93, .string (rdOf ByteArray.empty W (i : Int) ++ strOfNums [d])), (94, s_.2.2.2.2.2), (96, .pointer (some ⟨gr, 0, none⟩))]) (fun (s_ : Value × Value × Value × Value × Value × Value) w' => (∃ o, RG w' w.heap.size gb gr gt1 w5.heap.size (T.length + 1) #[.slice At T.length ct, .slice (some adF) F.length cf, .slice An N.length cn, .slice (some adW) W.length cw] #[.int .i64 gw, .int .i64 gh, .slice A9 gc.length c9] (updS f u.data.toList (T.length : Int)) o s_.2.1 (T ++ [u]) s_.2.2.2.1 (F ++ [wrap64 (rd F (i : Int) + 1)]) (.slice (some adW) W.length cw) W (.slice An N.length cn) N (.slice Ax X.length cx) X (s_.1) [u] (s_.2.2.1) [wrap64 (rd F (i : Int) + 1)] (s_.2.2.2.2.1) [d] (s_.2.2.2.2.2) [rdOf ByteArray.empty W (i : Int) ++ strOfNums [d]] (.slice A9 gc.length c9) gc (.slice (some ad3) ([117, 114, 100, 108] : List Int).length c13) [117, 114, 100, 108]) ∧ Below w.heap.size w w') ?_ ?_
        rotate_left
        ·intro hJ3_4_11_13_14_23_24_26
         refine join_ (σ := Value × Value × Value × Value × Value) 7 (bA 335544319) (fun s_ => [(71, s_.1), (72, s_.2.1), (79, .int .i64 (rd F (i : Int))), (80, .int .i64 (wrap64 (rd F (i : Int) + 1))), (81, s_.2.2.1), (82, s_.2.2.2.1), (91, s_.2.2.2.2), (92, .string (strOfNums [d])), (93, .string (rdOf ByteArray.empty W (i : Int) ++ strOfNums [d])), (96, .pointer (some ⟨gr, 0, none⟩))]) (fun (s_ : Value × Value × Value × Value × Value) w' => (∃ o, RG w' w.heap.size gb gr gt1 w5.heap.size (T.length + 1) #[.slice At T.length ct, .slice (some adF) F.length cf, .slice An N.length cn, .slice (some adW) W.length cw] #[.int .i64 gw, .int .i64 gh, .slice A9 gc.length c9] (updS f u.data.toList (T.length : Int)) o s_.2.1 (T ++ [u]) s_.2.2.2.1 (F ++ [wrap64 (rd F (i : Int) + 1)]) (.slice (some adW) W.length cw) W (.slice An N.length cn) N (.slice Ax X.length cx) X (s_.1) [u] (s_.2.2.1) [wrap64 (rd F (i : Int) + 1)] (s_.2.2.2.2) [d] (.slice none 0 0) [] (.slice A9 gc.length c9) gc (.slice (some ad3) ([117, 114, 100, 108] : List Int).length c13) [117, 114, 100, 108]) ∧ Below w.heap.size w w') ?_ ?_
         ·skip
          rintro ⟨v3, vt1, v13, vf1, v23⟩ wD ⟨⟨o, HG⟩, hB⟩
          have HB := Aside0.mk hB;clear hB;have hHeld := held18 HG hiW
          refine norm_ (a' := ?_) ?_ ?_
          rotate_left
          ·simp only [putAll, Act.put, List.setIfInBounds_toArray, List.set_cons_zero, List.set_cons_succ]
           rfl
          refine one_ (i := 26) (N := some 94) (bA 402653183) rfl rfl (by kernel_rfl) (by decide) (fun K hK => ?_)
          refine lit18 Kd.string 9 (N := 94) (rdOf ByteArray.empty W (i : Int) ++ strOfNums [d]) (.string (rdOf ByteArray.empty W (i : Int) ++ strOfNums [d])) 9 o HB fun vN wN hrN hbN hgN => ?_
          have HGn := HG.made_b26 hgN hrN;have HBn := Aside0.mk hbN
          refine hK.out _ _ (held18 HGn hiW) (fun hHeld => ?_)
          clear hK K
          refine norm_ (a' := ?_) ?_ ?_
          rotate_left
          ·show Act.put _ (some 94) _ = _
           simp only [Act.put, List.setIfInBounds_toArray, List.set_cons_zero, List.set_cons_succ, i64_w, i32_w]
           rfl
          exact nrm18 (hJ3_4_11_13_14_23_24_26 ⟨v3, vt1, v13, vf1, v23, vN⟩ _ ⟨⟨_, HGn⟩, HBn.out⟩)
         intro hJ3_4_11_13_14_23_24
         refine join_ (σ := Value × Value × Value × Value × Value) 7 (bA 402636799) (fun s_ => [(71, s_.1), (72, s_.2.1), (79, .int .i64 (rd F (i : Int))), (80, .int .i64 (wrap64 (rd F (i : Int) + 1))), (81, s_.2.2.1), (91, s_.2.2.2.1), (92, .string (strOfNums [d])), (93, .string (rdOf ByteArray.empty W (i : Int) ++ strOfNums [d])), (94, s_.2.2.2.2), (96, .pointer (some ⟨gr, 0, none⟩))]) (fun (s_ : Value × Value × Value × Value × Value) w' => (∃ o, RG w' w.heap.size gb gr gt1 w5.heap.size (T.length + 1) #[.slice At T.length ct, .slice (some adF) F.length cf, .slice An N.length cn, .slice (some adW) W.length cw] #[.int .i64 gw, .int .i64 gh, .slice A9 gc.length c9] (updS f u.data.toList (T.length : Int)) o s_.2.1 (T ++ [u]) (.slice (some adF) F.length cf) (F) (.slice (some adW) W.length cw) W (.slice An N.length cn) N (.slice Ax X.length cx) X (s_.1) [u] (s_.2.2.1) [wrap64 (rd F (i : Int) + 1)] (s_.2.2.2.1) [d] (s_.2.2.2.2) [rdOf ByteArray.empty W (i : Int) ++ strOfNums [d]] (.slice A9 gc.length c9) gc (.slice (some ad3) ([117, 114, 100, 108] : List Int).length c13) [117, 114, 100, 108]) ∧ Below w.heap.size w w') ?_ ?_
         ·skip
          rintro ⟨v3, vt1, v13, v23, v26⟩ wD ⟨⟨o, HG⟩, hB⟩
          have HB := Aside0.mk hB;clear hB;have hHeld := held18 HG hiW
          refine norm_ (a' := ?_) ?_ ?_
          rotate_left
          ·simp only [putAll, Act.put, List.setIfInBounds_toArray, List.set_cons_zero, List.set_cons_succ]
           rfl
          refine one_ (i := 14) (N := some 82) (bA 402653183) rfl rfl (by kernel_rfl) (by decide) (fun K hK => ?_)
          obtain ⟨Aq, cq, eq⟩ := Kd.R_slice HG.b13;subst eq
          refine app18 (Kd.int .i64) (.tmp 74) (.tmp 81) 39 3 (.int .i64 0) 8 (.slice (some adF) F.length cf) (F) (wrap64 (rd F (i : Int) + 1)) (Aq := Aq) (cq := cq) 2 o HB (rowg_at HG.fa 2) (Kd.R_reads' HG.b13).2.2 Tryz.underlying39 info3 (by have := HTL.out; omega) fun vN wN hrN hbN hgN => ?_
          have HGn := HG.turn_fa hgN hrN;have HBn := Aside0.mk hbN
          refine hK.out _ _ (held18 HGn hiW) (fun hHeld => ?_)
          clear hK K
          refine norm_ (a' := ?_) ?_ ?_
          rotate_left
          ·show Act.put _ (some 82) _ = _
           simp only [Act.put, List.setIfInBounds_toArray, List.set_cons_zero, List.set_cons_succ, i64_w, i32_w]
           rfl
          exact nrm18 (hJ3_4_11_13_14_23_24_26 ⟨v3, vt1, (.slice Aq _ cq), vN, v23, v26⟩ _ ⟨⟨_, HGn⟩, HBn.out⟩)
         intro hJ3_4_11_13_23_24_26
         refine join_ (σ := Value × Value × Value × Value × Value) 9 (bA 285212671) (fun s_ => [(71, s_.1), (72, s_.2.1), (79, .int .i64 (rd F (i : Int))), (80, .int .i64 (wrap64 (rd F (i : Int) + 1))), (81, s_.2.2.1), (82, s_.2.2.2.1), (91, s_.2.2.2.2), (96, .pointer (some ⟨gr, 0, none⟩))]) (fun (s_ : Value × Value × Value × Value × Value) w' => (∃ o, RG w' w.heap.size gb gr gt1 w5.heap.size (T.length + 1) #[.slice At T.length ct, .slice (some adF) F.length cf, .slice An N.length cn, .slice (some adW) W.length cw] #[.int .i64 gw, .int .i64 gh, .slice A9 gc.length c9] (updS f u.data.toList (T.length : Int)) o s_.2.1 (T ++ [u]) s_.2.2.2.1 (F ++ [wrap64 (rd F (i : Int) + 1)]) (.slice (some adW) W.length cw) W (.slice An N.length cn) N (.slice Ax X.length cx) X (s_.1) [u] (s_.2.2.1) [wrap64 (rd F (i : Int) + 1)] (s_.2.2.2.2) [d] (.slice none 0 0) [] (.slice A9 gc.length c9) gc (.slice (some ad3) ([117, 114, 100, 108] : List Int).length c13) [117, 114, 100, 108]) ∧ Below w.heap.size w w') ?_ ?_
         ·skip
          rintro ⟨v3, vt1, v13, vf1, v23⟩ wD ⟨⟨o, HG⟩, hB⟩
          have HB := Aside0.mk hB;clear hB;have hHeld := held18 HG hiW
          refine norm_ (a' := ?_) ?_ ?_
          rotate_left
          ·simp only [putAll, Act.put, List.setIfInBounds_toArray, List.set_cons_zero, List.set_cons_succ]
           rfl
          refine one_ (i := 24) (N := some 92) (bA 301989887) rfl rfl (by kernel_rfl) (by decide) (fun K hK => ?_)
          obtain ⟨Aq, cq, eq⟩ := Kd.R_slice HG.b23;subst eq;have hcv := Kd.C_string (c := cq) Tryz.underlying36 Tryz.underlying5 Tryz.underlying9 (Kd.R_reads' HG.b23).2.2
          refine value_ (w1 := ?_) (v := ?_) (by rfl) rfl ?_ ?_
          rotate_left 2
          ·go_simp
           rw [show Sem.run Tryz.prog (convert 36 9 (Value.slice Aq 1 cq)) wD = _ from hcv]
           rfl
          have HGn := HG;have HBn := HB
          refine hK.out _ _ (held18 HGn hiW) (fun hHeld => ?_)
          clear hK K
          refine norm_ (a' := ?_) ?_ ?_
          rotate_left
          ·show Act.put _ (some 92) _ = _
           simp only [Act.put, List.setIfInBounds_toArray, List.set_cons_zero, List.set_cons_succ, i64_w, i32_w]
           rfl
          refine pure_ (i := 25) (N := some 93) (v := ?_) (a' := ?_) (bA 335544319) rfl rfl (by kernel_rfl) (fun _ _ _ h => h) (Or.inl ⟨by rfl, ?_⟩) ?_ ?_
          rotate_left
          ·intro w'
           go_simp
           first | with_reducible rfl | rw [if_neg hct]
          rotate_left
          ·simp only [Act.put, List.setIfInBounds_toArray, List.set_cons_zero, List.set_cons_succ, i64_w, i32_w]
           rfl
          exact nrm18 (hJ3_4_11_13_14_23_24 ⟨v3, vt1, v13, vf1, (.slice Aq _ cq)⟩ _ ⟨⟨_, HGn⟩, HBn.out⟩)
         intro hJ3_4_11_13_14_23
         refine join_ (σ := Value × Value × Value × Value) 8 (bA 335527935) (fun s_ => [(71, s_.1), (72, s_.2.1), (79, .int .i64 (rd F (i : Int))), (80, .int .i64 (wrap64 (rd F (i : Int) + 1))), (81, s_.2.2.1), (91, s_.2.2.2), (92, .string (strOfNums [d])), (93, .string (rdOf ByteArray.empty W (i : Int) ++ strOfNums [d])), (96, .pointer (some ⟨gr, 0, none⟩))]) (fun (s_ : Value × Value × Value × Value) w' => (∃ o, RG w' w.heap.size gb gr gt1 w5.heap.size (T.length + 1) #[.slice At T.length ct, .slice (some adF) F.length cf, .slice An N.length cn, .slice (some adW) W.length cw] #[.int .i64 gw, .int .i64 gh, .slice A9 gc.length c9] (updS f u.data.toList (T.length : Int)) o s_.2.1 (T ++ [u]) (.slice (some adF) F.length cf) (F) (.slice (some adW) W.length cw) W (.slice An N.length cn) N (.slice Ax X.length cx) X (s_.1) [u] (s_.2.2.1) [wrap64 (rd F (i : Int) + 1)] (s_.2.2.2) [d] (.slice none 0 0) [] (.slice A9 gc.length c9) gc (.slice (some ad3) ([117, 114, 100, 108] : List Int).length c13) [117, 114, 100, 108]) ∧ Below w.heap.size w w') ?_ ?_
         ·skip
          rintro ⟨v3, vt1, v13, v23⟩ wD ⟨⟨o, HG⟩, hB⟩
          have HB := Aside0.mk hB;clear hB;have hHeld := held18 HG hiW
          refine norm_ (a' := ?_) ?_ ?_
          rotate_left
          ·simp only [putAll, Act.put, List.setIfInBounds_toArray, List.set_cons_zero, List.set_cons_succ]
           rfl
          refine two_ (i := 14) (j := 26) (Ni := some 82) (Nj := some 94) (bA 335544319) (bA 402636799) rfl rfl rfl rfl (by kernel_rfl) (by decide) (by decide) (fun K hK => ?_) (fun K hK => ?_)
          ·skip
           obtain ⟨Aq, cq, eq⟩ := Kd.R_slice HG.b13;subst eq
           refine app18 (Kd.int .i64) (.tmp 74) (.tmp 81) 39 3 (.int .i64 0) 8 (.slice (some adF) F.length cf) (F) (wrap64 (rd F (i : Int) + 1)) (Aq := Aq) (cq := cq) 2 o HB (rowg_at HG.fa 2) (Kd.R_reads' HG.b13).2.2 Tryz.underlying39 info3 (by have := HTL.out; omega) fun vN wN hrN hbN hgN => ?_
           have HGn := HG.turn_fa hgN hrN;have HBn := Aside0.mk hbN
           refine hK.out _ _ (held18 HGn hiW) (fun hHeld => ?_)
           clear hK K
           refine norm_ (a' := ?_) ?_ ?_
           rotate_left
           ·show Act.put _ (some 82) _ = _
            simp only [Act.put, List.setIfInBounds_toArray, List.set_cons_zero, List.set_cons_succ, i64_w, i32_w]
            rfl
           exact nrm18 (hJ3_4_11_13_14_23_24 ⟨v3, vt1, (.slice Aq _ cq), vN, v23⟩ _ ⟨⟨_, HGn⟩, HBn.out⟩)
          ·skip
           refine lit18 Kd.string 9 (N := 94) (rdOf ByteArray.empty W (i : Int) ++ strOfNums [d]) (.string (rdOf ByteArray.empty W (i : Int) ++ strOfNums [d])) 9 o HB fun vN wN hrN hbN hgN => ?_
           have HGn := HG.made_b26 hgN hrN;have HBn := Aside0.mk hbN
           refine hK.out _ _ (held18 HGn hiW) (fun hHeld => ?_)
           clear hK K
           refine norm_ (a' := ?_) ?_ ?_
           rotate_left
           ·show Act.put _ (some 94) _ = _
            simp only [Act.put, List.setIfInBounds_toArray, List.set_cons_zero, List.set_cons_succ, i64_w, i32_w]
            rfl
           exact nrm18 (hJ3_4_11_13_23_24_26 ⟨v3, vt1, v13, v23, vN⟩ _ ⟨⟨_, HGn⟩, HBn.out⟩)
         intro hJ3_4_11_13_23_24
         refine join_ (σ := Value × Value × Value × Value) 8 (bA 402628607) (fun s_ => [(71, s_.1), (72, s_.2.1), (79, .int .i64 (rd F (i : Int))), (80, .int .i64 (wrap64 (rd F (i : Int) + 1))), (91, s_.2.2.1), (92, .string (strOfNums [d])), (93, .string (rdOf ByteArray.empty W (i : Int) ++ strOfNums [d])), (94, s_.2.2.2), (96, .pointer (some ⟨gr, 0, none⟩))]) (fun (s_ : Value × Value × Value × Value) w' => (∃ o, RG w' w.heap.size gb gr gt1 w5.heap.size (T.length + 1) #[.slice At T.length ct, .slice (some adF) F.length cf, .slice An N.length cn, .slice (some adW) W.length cw] #[.int .i64 gw, .int .i64 gh, .slice A9 gc.length c9] (updS f u.data.toList (T.length : Int)) o s_.2.1 (T ++ [u]) (.slice (some adF) F.length cf) (F) (.slice (some adW) W.length cw) W (.slice An N.length cn) N (.slice Ax X.length cx) X (s_.1) [u] (.slice none 0 0) [] (s_.2.2.1) [d] (s_.2.2.2) [rdOf ByteArray.empty W (i : Int) ++ strOfNums [d]] (.slice A9 gc.length c9) gc (.slice (some ad3) ([117, 114, 100, 108] : List Int).length c13) [117, 114, 100, 108]) ∧ Below w.heap.size w w') ?_ ?_
         ·skip
          rintro ⟨v3, vt1, v23, v26⟩ wD ⟨⟨o, HG⟩, hB⟩
          have HB := Aside0.mk hB;clear hB;have hHeld := held18 HG hiW
          refine norm_ (a' := ?_) ?_ ?_
          rotate_left
          ·simp only [putAll, Act.put, List.setIfInBounds_toArray, List.set_cons_zero, List.set_cons_succ]
           rfl
          refine one_ (i := 13) (N := some 81) (bA 402636799) rfl rfl (by kernel_rfl) (by decide) (fun K hK => ?_)
          refine lit18 (Kd.int .i64) 3 (N := 81) (wrap64 (rd F (i : Int) + 1)) (.int .i64 (wrap64 (rd F (i : Int) + 1))) 7 o HB fun vN wN hrN hbN hgN => ?_
          have HGn := HG.made_b13 hgN hrN;have HBn := Aside0.mk hbN
          refine hK.out _ _ (held18 HGn hiW) (fun hHeld => ?_)
          clear hK K
          refine norm_ (a' := ?_) ?_ ?_
          rotate_left
          ·show Act.put _ (some 81) _ = _
           simp only [Act.put, List.setIfInBounds_toArray, List.set_cons_zero, List.set_cons_succ, i64_w, i32_w]
           rfl
          exact nrm18 (hJ3_4_11_13_23_24_26 ⟨v3, vt1, vN, v23, v26⟩ _ ⟨⟨_, HGn⟩, HBn.out⟩)
         intro hJ3_4_11_23_24_26
         refine join_ (σ := Value × Value × Value × Value) 9 (bA 134201327) (fun s_ => [(71, s_.1), (79, .int .i64 (rd F (i : Int))), (80, .int .i64 (wrap64 (rd F (i : Int) + 1))), (81, s_.2.1), (91, s_.2.2.1), (92, .string (strOfNums [d])), (93, .string (rdOf ByteArray.empty W (i : Int) ++ strOfNums [d])), (94, s_.2.2.2)]) (fun (s_ : Value × Value × Value × Value) w' => (∃ o, RG w' w.heap.size gb gr gt1 w5.heap.size (T.length + 1) #[.slice At T.length ct, .slice (some adF) F.length cf, .slice An N.length cn, .slice (some adW) W.length cw] #[.int .i64 gw, .int .i64 gh, .slice A9 gc.length c9] (updS f u.data.toList (T.length : Int)) o (.slice At T.length ct) (T) (.slice (some adF) F.length cf) (F) (.slice (some adW) W.length cw) W (.slice An N.length cn) N (.slice Ax X.length cx) X (s_.1) [u] (s_.2.1) [wrap64 (rd F (i : Int) + 1)] (s_.2.2.1) [d] (s_.2.2.2) [rdOf ByteArray.empty W (i : Int) ++ strOfNums [d]] (.slice A9 gc.length c9) gc (.slice (some ad3) ([117, 114, 100, 108] : List Int).length c13) [117, 114, 100, 108]) ∧ Below w.heap.size w w') ?_ ?_
         ·skip
          rintro ⟨v3, v13, v23, v26⟩ wD ⟨⟨o, HG⟩, hB⟩
          have HB := Aside0.mk hB;clear hB;have hHeld := held18 HG hiW
          refine norm_ (a' := ?_) ?_ ?_
          rotate_left
          ·simp only [putAll, Act.put, List.setIfInBounds_toArray, List.set_cons_zero, List.set_cons_succ]
           rfl
          refine one_ (i := 4) (N := some 72) (bA 134201343) rfl rfl (by kernel_rfl) (by decide) (fun K hK => ?_)
          obtain ⟨Aq, cq, eq⟩ := Kd.R_slice HG.b3;subst eq
          refine app18 Kd.string (.tmp 69) (.tmp 71) 43 9 (.string ⟨#[]⟩) 16 (.slice At T.length ct) (T) (u) (Aq := Aq) (cq := cq) 1 o HB (rowg_at HG.t 1) (Kd.R_reads' HG.b3).2.2 Tryz.underlying43 info9 (by have := HTL.out; omega) fun vN wN hrN hbN hgN => ?_
          have HGn := HG.turn_t hgN hrN;have HBn := Aside0.mk hbN
          refine hK.out _ _ (held18 HGn hiW) (fun hHeld => ?_)
          clear hK K
          refine norm_ (a' := ?_) ?_ ?_
          rotate_left
          ·show Act.put _ (some 72) _ = _
           simp only [Act.put, List.setIfInBounds_toArray, List.set_cons_zero, List.set_cons_succ, i64_w, i32_w]
           rfl
          refine pure_ (i := 28) (N := some 96) (v := ?_) (a' := ?_) (bA 402636799) rfl rfl (by kernel_rfl) (fun _ _ _ h => h) (Or.inl ⟨by rfl, ?_⟩) ?_ ?_
          rotate_left
          ·intro w'
           go_simp
           with_reducible rfl
          rotate_left
          ·simp only [Act.put, List.setIfInBounds_toArray, List.set_cons_zero, List.set_cons_succ, i64_w, i32_w]
           rfl
          exact nrm18 (hJ3_4_11_13_23_24_26 ⟨(.slice Aq _ cq), vN, v13, v23, v26⟩ _ ⟨⟨_, HGn⟩, HBn.out⟩)
         intro hJ3_11_13_23_24_26
         refine join_ (σ := Value × Value × Value × Value) 10 (bA 276824063) (fun s_ => [(71, s_.1), (72, s_.2.1), (79, .int .i64 (rd F (i : Int))), (80, .int .i64 (wrap64 (rd F (i : Int) + 1))), (81, s_.2.2.1), (82, s_.2.2.2), (96, .pointer (some ⟨gr, 0, none⟩))]) (fun (s_ : Value × Value × Value × Value) w' => (∃ o, RG w' w.heap.size gb gr gt1 w5.heap.size (T.length + 1) #[.slice At T.length ct, .slice (some adF) F.length cf, .slice An N.length cn, .slice (some adW) W.length cw] #[.int .i64 gw, .int .i64 gh, .slice A9 gc.length c9] (updS f u.data.toList (T.length : Int)) o s_.2.1 (T ++ [u]) s_.2.2.2 (F ++ [wrap64 (rd F (i : Int) + 1)]) (.slice (some adW) W.length cw) W (.slice An N.length cn) N (.slice Ax X.length cx) X (s_.1) [u] (s_.2.2.1) [wrap64 (rd F (i : Int) + 1)] (.slice none 0 0) [] (.slice none 0 0) [] (.slice A9 gc.length c9) gc (.slice (some ad3) ([117, 114, 100, 108] : List Int).length c13) [117, 114, 100, 108]) ∧ Below w.heap.size w w') ?_ ?_
         ·skip
          rintro ⟨v3, vt1, v13, vf1⟩ wD ⟨⟨o, HG⟩, hB⟩
          have HB := Aside0.mk hB;clear hB;have hHeld := held18 HG hiW
          refine norm_ (a' := ?_) ?_ ?_
          rotate_left
          ·simp only [putAll, Act.put, List.setIfInBounds_toArray, List.set_cons_zero, List.set_cons_succ]
           rfl
          refine one_ (i := 23) (N := some 91) (bA 285212671) rfl rfl (by kernel_rfl) (by decide) (fun K hK => ?_)
          refine lit18 (Kd.int .u8) 5 (N := 91) (d) (.int .u8 d) 8 o HB fun vN wN hrN hbN hgN => ?_
          have HGn := HG.made_b23 hgN hrN;have HBn := Aside0.mk hbN
          refine hK.out _ _ (held18 HGn hiW) (fun hHeld => ?_)
          clear hK K
          refine norm_ (a' := ?_) ?_ ?_
          rotate_left
          ·show Act.put _ (some 91) _ = _
           simp only [Act.put, List.setIfInBounds_toArray, List.set_cons_zero, List.set_cons_succ, i64_w, i32_w]
           rfl
          exact nrm18 (hJ3_4_11_13_14_23 ⟨v3, vt1, v13, vf1, vN⟩ _ ⟨⟨_, HGn⟩, HBn.out⟩)
         intro hJ3_4_11_13_14
         refine join_ (σ := Value × Value × Value × Value) 10 (bA 285196287) (fun s_ => [(71, s_.1), (72, s_.2.1), (79, .int .i64 (rd F (i : Int))), (80, .int .i64 (wrap64 (rd F (i : Int) + 1))), (81, s_.2.2.1), (91, s_.2.2.2), (96, .pointer (some ⟨gr, 0, none⟩))]) (fun (s_ : Value × Value × Value × Value) w' => (∃ o, RG w' w.heap.size gb gr gt1 w5.heap.size (T.length + 1) #[.slice At T.length ct, .slice (some adF) F.length cf, .slice An N.length cn, .slice (some adW) W.length cw] #[.int .i64 gw, .int .i64 gh, .slice A9 gc.length c9] (updS f u.data.toList (T.length : Int)) o s_.2.1 (T ++ [u]) (.slice (some adF) F.length cf) (F) (.slice (some adW) W.length cw) W (.slice An N.length cn) N (.slice Ax X.length cx) X (s_.1) [u] (s_.2.2.1) [wrap64 (rd F (i : Int) + 1)] (s_.2.2.2) [d] (.slice none 0 0) [] (.slice A9 gc.length c9) gc (.slice (some ad3) ([117, 114, 100, 108] : List Int).length c13) [117, 114, 100, 108]) ∧ Below w.heap.size w w') ?_ ?_
         ·skip
          rintro ⟨v3, vt1, v13, v23⟩ wD ⟨⟨o, HG⟩, hB⟩
          have HB := Aside0.mk hB;clear hB;have hHeld := held18 HG hiW
          refine norm_ (a' := ?_) ?_ ?_
          rotate_left
          ·simp only [putAll, Act.put, List.setIfInBounds_toArray, List.set_cons_zero, List.set_cons_succ]
           rfl
          refine two_ (i := 14) (j := 24) (Ni := some 82) (Nj := some 92) (bA 285212671) (bA 301973503) rfl rfl rfl rfl (by kernel_rfl) (by decide) (by decide) (fun K hK => ?_) (fun K hK => ?_)
          ·skip
           obtain ⟨Aq, cq, eq⟩ := Kd.R_slice HG.b13;subst eq
           refine app18 (Kd.int .i64) (.tmp 74) (.tmp 81) 39 3 (.int .i64 0) 8 (.slice (some adF) F.length cf) (F) (wrap64 (rd F (i : Int) + 1)) (Aq := Aq) (cq := cq) 2 o HB (rowg_at HG.fa 2) (Kd.R_reads' HG.b13).2.2 Tryz.underlying39 info3 (by have := HTL.out; omega) fun vN wN hrN hbN hgN => ?_
           have HGn := HG.turn_fa hgN hrN;have HBn := Aside0.mk hbN
           refine hK.out _ _ (held18 HGn hiW) (fun hHeld => ?_)
           clear hK K
           refine norm_ (a' := ?_) ?_ ?_
           rotate_left
           ·show Act.put _ (some 82) _ = _
            simp only [Act.put, List.setIfInBounds_toArray, List.set_cons_zero, List.set_cons_succ, i64_w, i32_w]
            rfl
           exact nrm18 (hJ3_4_11_13_14_23 ⟨v3, vt1, (.slice Aq _ cq), vN, v23⟩ _ ⟨⟨_, HGn⟩, HBn.out⟩)
          ·skip
           obtain ⟨Aq, cq, eq⟩ := Kd.R_slice HG.b23;subst eq;have hcv := Kd.C_string (c := cq) Tryz.underlying36 Tryz.underlying5 Tryz.underlying9 (Kd.R_reads' HG.b23).2.2
           refine value_ (w1 := ?_) (v := ?_) (by rfl) rfl ?_ ?_
           rotate_left 2
           ·go_simp
            rw [show Sem.run Tryz.prog (convert 36 9 (Value.slice Aq 1 cq)) wD = _ from hcv]
            rfl
           have HGn := HG;have HBn := HB
           refine hK.out _ _ (held18 HGn hiW) (fun hHeld => ?_)
           clear hK K
           refine norm_ (a' := ?_) ?_ ?_
           rotate_left
           ·show Act.put _ (some 92) _ = _
            simp only [Act.put, List.setIfInBounds_toArray, List.set_cons_zero, List.set_cons_succ, i64_w, i32_w]
            rfl
           refine pure_ (i := 25) (N := some 93) (v := ?_) (a' := ?_) (bA 335527935) rfl rfl (by kernel_rfl) (fun _ _ _ h => h) (Or.inl ⟨by rfl, ?_⟩) ?_ ?_
           rotate_left
           ·intro w'
            go_simp
            first | with_reducible rfl | rw [if_neg hct]
           rotate_left
           ·simp only [Act.put, List.setIfInBounds_toArray, List.set_cons_zero, List.set_cons_succ, i64_w, i32_w]
            rfl
           exact nrm18 (hJ3_4_11_13_23_24 ⟨v3, vt1, v13, (.slice Aq _ cq)⟩ _ ⟨⟨_, HGn⟩, HBn.out⟩)
         intro hJ3_4_11_13_23
         refine join_ (σ := Value × Value × Value) 9 (bA 335519743) (fun s_ => [(71, s_.1), (72, s_.2.1), (79, .int .i64 (rd F (i : Int))), (80, .int .i64 (wrap64 (rd F (i : Int) + 1))), (91, s_.2.2), (92, .string (strOfNums [d])), (93, .string (rdOf ByteArray.empty W (i : Int) ++ strOfNums [d])), (96, .pointer (some ⟨gr, 0, none⟩))]) (fun (s_ : Value × Value × Value) w' => (∃ o, RG w' w.heap.size gb gr gt1 w5.heap.size (T.length + 1) #[.slice At T.length ct, .slice (some adF) F.length cf, .slice An N.length cn, .slice (some adW) W.length cw] #[.int .i64 gw, .int .i64 gh, .slice A9 gc.length c9] (updS f u.data.toList (T.length : Int)) o s_.2.1 (T ++ [u]) (.slice (some adF) F.length cf) (F) (.slice (some adW) W.length cw) W (.slice An N.length cn) N (.slice Ax X.length cx) X (s_.1) [u] (.slice none 0 0) [] (s_.2.2) [d] (.slice none 0 0) [] (.slice A9 gc.length c9) gc (.slice (some ad3) ([117, 114, 100, 108] : List Int).length c13) [117, 114, 100, 108]) ∧ Below w.heap.size w w') ?_ ?_
         ·skip
          rintro ⟨v3, vt1, v23⟩ wD ⟨⟨o, HG⟩, hB⟩
          have HB := Aside0.mk hB;clear hB;have hHeld := held18 HG hiW
          refine norm_ (a' := ?_) ?_ ?_
          rotate_left
          ·simp only [putAll, Act.put, List.setIfInBounds_toArray, List.set_cons_zero, List.set_cons_succ]
           rfl
          refine two_ (i := 13) (j := 26) (Ni := some 81) (Nj := some 94) (bA 335527935) (bA 402628607) rfl rfl rfl rfl (by kernel_rfl) (by decide) (by decide) (fun K hK => ?_) (fun K hK => ?_)
          ·skip
           refine lit18 (Kd.int .i64) 3 (N := 81) (wrap64 (rd F (i : Int) + 1)) (.int .i64 (wrap64 (rd F (i : Int) + 1))) 7 o HB fun vN wN hrN hbN hgN => ?_
           have HGn := HG.made_b13 hgN hrN;have HBn := Aside0.mk hbN
           refine hK.out _ _ (held18 HGn hiW) (fun hHeld => ?_)
           clear hK K
           refine norm_ (a' := ?_) ?_ ?_
           rotate_left
           ·show Act.put _ (some 81) _ = _
            simp only [Act.put, List.setIfInBounds_toArray, List.set_cons_zero, List.set_cons_succ, i64_w, i32_w]
            rfl
           exact nrm18 (hJ3_4_11_13_23_24 ⟨v3, vt1, vN, v23⟩ _ ⟨⟨_, HGn⟩, HBn.out⟩)
          ·skip
           refine lit18 Kd.string 9 (N := 94) (rdOf ByteArray.empty W (i : Int) ++ strOfNums [d]) (.string (rdOf ByteArray.empty W (i : Int) ++ strOfNums [d])) 9 o HB fun vN wN hrN hbN hgN => ?_
           have HGn := HG.made_b26 hgN hrN;have HBn := Aside0.mk hbN
           refine hK.out _ _ (held18 HGn hiW) (fun hHeld => ?_)
           clear hK K
           refine norm_ (a' := ?_) ?_ ?_
           rotate_left
           ·show Act.put _ (some 94) _ = _
            simp only [Act.put, List.setIfInBounds_toArray, List.set_cons_zero, List.set_cons_succ, i64_w, i32_w]
            rfl
           exact nrm18 (hJ3_4_11_23_24_26 ⟨v3, vt1, v23, vN⟩ _ ⟨⟨_, HGn⟩, HBn.out⟩)
         intro hJ3_4_11_23_24
         refine join_ (σ := Value × Value × Value × Value) 10 (bA 402622463) (fun s_ => [(71, s_.1), (72, s_.2.1), (91, s_.2.2.1), (92, .string (strOfNums [d])), (93, .string (rdOf ByteArray.empty W (i : Int) ++ strOfNums [d])), (94, s_.2.2.2), (96, .pointer (some ⟨gr, 0, none⟩))]) (fun (s_ : Value × Value × Value × Value) w' => (∃ o, RG w' w.heap.size gb gr gt1 w5.heap.size (T.length + 1) #[.slice At T.length ct, .slice (some adF) F.length cf, .slice An N.length cn, .slice (some adW) W.length cw] #[.int .i64 gw, .int .i64 gh, .slice A9 gc.length c9] (updS f u.data.toList (T.length : Int)) o s_.2.1 (T ++ [u]) (.slice (some adF) F.length cf) (F) (.slice (some adW) W.length cw) W (.slice An N.length cn) N (.slice Ax X.length cx) X (s_.1) [u] (.slice none 0 0) [] (s_.2.2.1) [d] (s_.2.2.2) [rdOf ByteArray.empty W (i : Int) ++ strOfNums [d]] (.slice A9 gc.length c9) gc (.slice (some ad3) ([117, 114, 100, 108] : List Int).length c13) [117, 114, 100, 108]) ∧ Below w.heap.size w w') ?_ ?_
         ·skip
          rintro ⟨v3, vt1, v23, v26⟩ wD ⟨⟨o, HG⟩, hB⟩
          have HB := Aside0.mk hB;clear hB;have hHeld := held18 HG hiW
          refine norm_ (a' := ?_) ?_ ?_
          rotate_left
          ·simp only [putAll, Act.put, List.setIfInBounds_toArray, List.set_cons_zero, List.set_cons_succ]
           rfl
          refine one_ (i := 11) (N := some 79) (bA 402624511) rfl rfl (by kernel_rfl) (by decide) (fun K hK => ?_)
          have hx11 := far18 HG hiF
          refine value_ (w1 := ?_) (v := ?_) (by rfl) rfl ?_ ?_
          rotate_left 2
          ·go_simp
           constructor
           ·rfl
           ·rfl
          have HGn := HG;have HBn := HB
          refine hK.out _ _ (held18 HGn hiW) (fun hHeld => ?_)
          clear hK K
          refine norm_ (a' := ?_) ?_ ?_
          rotate_left
          ·show Act.put _ (some 79) _ = _
           simp only [Act.put, List.setIfInBounds_toArray, List.set_cons_zero, List.set_cons_succ, i64_w, i32_w]
           rfl
          refine pure_ (i := 12) (N := some 80) (v := ?_) (a' := ?_) (bA 402628607) rfl rfl (by kernel_rfl) (fun _ _ _ h => h) (Or.inl ⟨by rfl, ?_⟩) ?_ ?_
          rotate_left
          ·intro w'
           go_simp
           with_reducible rfl
          rotate_left
          ·simp only [Act.put, List.setIfInBounds_toArray, List.set_cons_zero, List.set_cons_succ, i64_w, i32_w]
           rfl
          exact nrm18 (hJ3_4_11_23_24_26 ⟨v3, vt1, v23, v26⟩ _ ⟨⟨_, HGn⟩, HBn.out⟩)
         intro hJ3_4_23_24_26
         refine join_ (σ := Value × Value × Value) 10 (bA 67092463) (fun s_ => [(71, s_.1), (79, .int .i64 (rd F (i : Int))), (80, .int .i64 (wrap64 (rd F (i : Int) + 1))), (81, s_.2.1), (91, s_.2.2), (92, .string (strOfNums [d])), (93, .string (rdOf ByteArray.empty W (i : Int) ++ strOfNums [d]))]) (fun (s_ : Value × Value × Value) w' => (∃ o, RG w' w.heap.size gb gr gt1 w5.heap.size (T.length + 1) #[.slice At T.length ct, .slice (some adF) F.length cf, .slice An N.length cn, .slice (some adW) W.length cw] #[.int .i64 gw, .int .i64 gh, .slice A9 gc.length c9] (updS f u.data.toList (T.length : Int)) o (.slice At T.length ct) (T) (.slice (some adF) F.length cf) (F) (.slice (some adW) W.length cw) W (.slice An N.length cn) N (.slice Ax X.length cx) X (s_.1) [u] (s_.2.1) [wrap64 (rd F (i : Int) + 1)] (s_.2.2) [d] (.slice none 0 0) [] (.slice A9 gc.length c9) gc (.slice (some ad3) ([117, 114, 100, 108] : List Int).length c13) [117, 114, 100, 108]) ∧ Below w.heap.size w w') ?_ ?_
         ·skip
          rintro ⟨v3, v13, v23⟩ wD ⟨⟨o, HG⟩, hB⟩
          have HB := Aside0.mk hB;clear hB;have hHeld := held18 HG hiW
          refine norm_ (a' := ?_) ?_ ?_
          rotate_left
          ·simp only [putAll, Act.put, List.setIfInBounds_toArray, List.set_cons_zero, List.set_cons_succ]
           rfl
          refine two_ (i := 4) (j := 26) (Ni := some 72) (Nj := some 94) (bA 67092479) (bA 134201327) rfl rfl rfl rfl (by kernel_rfl) (by decide) (by decide) (fun K hK => ?_) (fun K hK => ?_)
          ·skip
           obtain ⟨Aq, cq, eq⟩ := Kd.R_slice HG.b3;subst eq
           refine app18 Kd.string (.tmp 69) (.tmp 71) 43 9 (.string ⟨#[]⟩) 16 (.slice At T.length ct) (T) (u) (Aq := Aq) (cq := cq) 1 o HB (rowg_at HG.t 1) (Kd.R_reads' HG.b3).2.2 Tryz.underlying43 info9 (by have := HTL.out; omega) fun vN wN hrN hbN hgN => ?_
           have HGn := HG.turn_t hgN hrN;have HBn := Aside0.mk hbN
           refine hK.out _ _ (held18 HGn hiW) (fun hHeld => ?_)
           clear hK K
           refine norm_ (a' := ?_) ?_ ?_
           rotate_left
           ·show Act.put _ (some 72) _ = _
            simp only [Act.put, List.setIfInBounds_toArray, List.set_cons_zero, List.set_cons_succ, i64_w, i32_w]
            rfl
           refine pure_ (i := 28) (N := some 96) (v := ?_) (a' := ?_) (bA 335527935) rfl rfl (by kernel_rfl) (fun _ _ _ h => h) (Or.inl ⟨by rfl, ?_⟩) ?_ ?_
           rotate_left
           ·intro w'
            go_simp
            with_reducible rfl
           rotate_left
           ·simp only [Act.put, List.setIfInBounds_toArray, List.set_cons_zero, List.set_cons_succ, i64_w, i32_w]
            rfl
           exact nrm18 (hJ3_4_11_13_23_24 ⟨(.slice Aq _ cq), vN, v13, v23⟩ _ ⟨⟨_, HGn⟩, HBn.out⟩)
          ·skip
           refine lit18 Kd.string 9 (N := 94) (rdOf ByteArray.empty W (i : Int) ++ strOfNums [d]) (.string (rdOf ByteArray.empty W (i : Int) ++ strOfNums [d])) 9 o HB fun vN wN hrN hbN hgN => ?_
           have HGn := HG.made_b26 hgN hrN;have HBn := Aside0.mk hbN
           refine hK.out _ _ (held18 HGn hiW) (fun hHeld => ?_)
           clear hK K
           refine norm_ (a' := ?_) ?_ ?_
           rotate_left
           ·show Act.put _ (some 94) _ = _
            simp only [Act.put, List.setIfInBounds_toArray, List.set_cons_zero, List.set_cons_succ, i64_w, i32_w]
            rfl
           exact nrm18 (hJ3_11_13_23_24_26 ⟨v3, v13, v23, vN⟩ _ ⟨⟨_, HGn⟩, HBn.out⟩)
         intro hJ3_11_13_23_24
         refine join_ (σ := Value × Value × Value) 10 (bA 134193135) (fun s_ => [(71, s_.1), (79, .int .i64 (rd F (i : Int))), (80, .int .i64 (wrap64 (rd F (i : Int) + 1))), (91, s_.2.1), (92, .string (strOfNums [d])), (93, .string (rdOf ByteArray.empty W (i : Int) ++ strOfNums [d])), (94, s_.2.2)]) (fun (s_ : Value × Value × Value) w' => (∃ o, RG w' w.heap.size gb gr gt1 w5.heap.size (T.length + 1) #[.slice At T.length ct, .slice (some adF) F.length cf, .slice An N.length cn, .slice (some adW) W.length cw] #[.int .i64 gw, .int .i64 gh, .slice A9 gc.length c9] (updS f u.data.toList (T.length : Int)) o (.slice At T.length ct) (T) (.slice (some adF) F.length cf) (F) (.slice (some adW) W.length cw) W (.slice An N.length cn) N (.slice Ax X.length cx) X (s_.1) [u] (.slice none 0 0) [] (s_.2.1) [d] (s_.2.2) [rdOf ByteArray.empty W (i : Int) ++ strOfNums [d]] (.slice A9 gc.length c9) gc (.slice (some ad3) ([117, 114, 100, 108] : List Int).length c13) [117, 114, 100, 108]) ∧ Below w.heap.size w w') ?_ ?_
         ·skip
          rintro ⟨v3, v23, v26⟩ wD ⟨⟨o, HG⟩, hB⟩
          have HB := Aside0.mk hB;clear hB;have hHeld := held18 HG hiW
          refine norm_ (a' := ?_) ?_ ?_
          rotate_left
          ·simp only [putAll, Act.put, List.setIfInBounds_toArray, List.set_cons_zero, List.set_cons_succ]
           rfl
          refine two_ (i := 4) (j := 13) (Ni := some 72) (Nj := some 81) (bA 134193151) (bA 134201327) rfl rfl rfl rfl (by kernel_rfl) (by decide) (by decide) (fun K hK => ?_) (fun K hK => ?_)
          ·skip
           obtain ⟨Aq, cq, eq⟩ := Kd.R_slice HG.b3;subst eq
           refine app18 Kd.string (.tmp 69) (.tmp 71) 43 9 (.string ⟨#[]⟩) 16 (.slice At T.length ct) (T) (u) (Aq := Aq) (cq := cq) 1 o HB (rowg_at HG.t 1) (Kd.R_reads' HG.b3).2.2 Tryz.underlying43 info9 (by have := HTL.out; omega) fun vN wN hrN hbN hgN => ?_
           have HGn := HG.turn_t hgN hrN;have HBn := Aside0.mk hbN
           refine hK.out _ _ (held18 HGn hiW) (fun hHeld => ?_)
           clear hK K
           refine norm_ (a' := ?_) ?_ ?_
           rotate_left
           ·show Act.put _ (some 72) _ = _
            simp only [Act.put, List.setIfInBounds_toArray, List.set_cons_zero, List.set_cons_succ, i64_w, i32_w]
            rfl
           refine pure_ (i := 28) (N := some 96) (v := ?_) (a' := ?_) (bA 402628607) rfl rfl (by kernel_rfl) (fun _ _ _ h => h) (Or.inl ⟨by rfl, ?_⟩) ?_ ?_
           rotate_left
           ·intro w'
            go_simp
            with_reducible rfl
           rotate_left
           ·simp only [Act.put, List.setIfInBounds_toArray, List.set_cons_zero, List.set_cons_succ, i64_w, i32_w]
            rfl
           exact nrm18 (hJ3_4_11_23_24_26 ⟨(.slice Aq _ cq), vN, v23, v26⟩ _ ⟨⟨_, HGn⟩, HBn.out⟩)
          ·skip
           refine lit18 (Kd.int .i64) 3 (N := 81) (wrap64 (rd F (i : Int) + 1)) (.int .i64 (wrap64 (rd F (i : Int) + 1))) 7 o HB fun vN wN hrN hbN hgN => ?_
           have HGn := HG.made_b13 hgN hrN;have HBn := Aside0.mk hbN
           refine hK.out _ _ (held18 HGn hiW) (fun hHeld => ?_)
           clear hK K
           refine norm_ (a' := ?_) ?_ ?_
           rotate_left
           ·show Act.put _ (some 81) _ = _
            simp only [Act.put, List.setIfInBounds_toArray, List.set_cons_zero, List.set_cons_succ, i64_w, i32_w]
            rfl
           exact nrm18 (hJ3_11_13_23_24_26 ⟨v3, vN, v23, v26⟩ _ ⟨⟨_, HGn⟩, HBn.out⟩)
         intro hJ3_11_23_24_26
         refine join_ (σ := Value × Value × Value) 10 (bA 134201319) (fun s_ => [(79, .int .i64 (rd F (i : Int))), (80, .int .i64 (wrap64 (rd F (i : Int) + 1))), (81, s_.1), (91, s_.2.1), (92, .string (strOfNums [d])), (93, .string (rdOf ByteArray.empty W (i : Int) ++ strOfNums [d])), (94, s_.2.2)]) (fun (s_ : Value × Value × Value) w' => (∃ o, RG w' w.heap.size gb gr gt1 w5.heap.size (T.length + 1) #[.slice At T.length ct, .slice (some adF) F.length cf, .slice An N.length cn, .slice (some adW) W.length cw] #[.int .i64 gw, .int .i64 gh, .slice A9 gc.length c9] (updS f u.data.toList (T.length : Int)) o (.slice At T.length ct) (T) (.slice (some adF) F.length cf) (F) (.slice (some adW) W.length cw) W (.slice An N.length cn) N (.slice Ax X.length cx) X (.slice none 0 0) [] (s_.1) [wrap64 (rd F (i : Int) + 1)] (s_.2.1) [d] (s_.2.2) [rdOf ByteArray.empty W (i : Int) ++ strOfNums [d]] (.slice A9 gc.length c9) gc (.slice (some ad3) ([117, 114, 100, 108] : List Int).length c13) [117, 114, 100, 108]) ∧ Below w.heap.size w w') ?_ ?_
         ·skip
          rintro ⟨v13, v23, v26⟩ wD ⟨⟨o, HG⟩, hB⟩
          have HB := Aside0.mk hB;clear hB;have hHeld := held18 HG hiW
          refine norm_ (a' := ?_) ?_ ?_
          rotate_left
          ·simp only [putAll, Act.put, List.setIfInBounds_toArray, List.set_cons_zero, List.set_cons_succ]
           rfl
          refine one_ (i := 3) (N := some 71) (bA 134201327) rfl rfl (by kernel_rfl) (by decide) (fun K hK => ?_)
          refine lit18 Kd.string 9 (N := 71) (u) (.string u) 6 o HB fun vN wN hrN hbN hgN => ?_
          have HGn := HG.made_b3 hgN hrN;have HBn := Aside0.mk hbN
          refine hK.out _ _ (held18 HGn hiW) (fun hHeld => ?_)
          clear hK K
          refine norm_ (a' := ?_) ?_ ?_
          rotate_left
          ·show Act.put _ (some 71) _ = _
           simp only [Act.put, List.setIfInBounds_toArray, List.set_cons_zero, List.set_cons_succ, i64_w, i32_w]
           rfl
          exact nrm18 (hJ3_11_13_23_24_26 ⟨vN, v13, v23, v26⟩ _ ⟨⟨_, HGn⟩, HBn.out⟩)
         intro hJ11_13_23_24_26
         refine join_ (σ := Value × Value × Value) 11 (bA 276807679) (fun s_ => [(71, s_.1), (72, s_.2.1), (79, .int .i64 (rd F (i : Int))), (80, .int .i64 (wrap64 (rd F (i : Int) + 1))), (81, s_.2.2), (96, .pointer (some ⟨gr, 0, none⟩))]) (fun (s_ : Value × Value × Value) w' => (∃ o, RG w' w.heap.size gb gr gt1 w5.heap.size (T.length + 1) #[.slice At T.length ct, .slice (some adF) F.length cf, .slice An N.length cn, .slice (some adW) W.length cw] #[.int .i64 gw, .int .i64 gh, .slice A9 gc.length c9] (updS f u.data.toList (T.length : Int)) o s_.2.1 (T ++ [u]) (.slice (some adF) F.length cf) (F) (.slice (some adW) W.length cw) W (.slice An N.length cn) N (.slice Ax X.length cx) X (s_.1) [u] (s_.2.2) [wrap64 (rd F (i : Int) + 1)] (.slice none 0 0) [] (.slice none 0 0) [] (.slice A9 gc.length c9) gc (.slice (some ad3) ([117, 114, 100, 108] : List Int).length c13) [117, 114, 100, 108]) ∧ Below w.heap.size w w') ?_ ?_
         ·skip
          rintro ⟨v3, vt1, v13⟩ wD ⟨⟨o, HG⟩, hB⟩
          have HB := Aside0.mk hB;clear hB;have hHeld := held18 HG hiW
          refine norm_ (a' := ?_) ?_ ?_
          rotate_left
          ·simp only [putAll, Act.put, List.setIfInBounds_toArray, List.set_cons_zero, List.set_cons_succ]
           rfl
          refine two_ (i := 14) (j := 23) (Ni := some 82) (Nj := some 91) (bA 276824063) (bA 285196287) rfl rfl rfl rfl (by kernel_rfl) (by decide) (by decide) (fun K hK => ?_) (fun K hK => ?_)
          ·skip
           obtain ⟨Aq, cq, eq⟩ := Kd.R_slice HG.b13;subst eq
           refine app18 (Kd.int .i64) (.tmp 74) (.tmp 81) 39 3 (.int .i64 0) 8 (.slice (some adF) F.length cf) (F) (wrap64 (rd F (i : Int) + 1)) (Aq := Aq) (cq := cq) 2 o HB (rowg_at HG.fa 2) (Kd.R_reads' HG.b13).2.2 Tryz.underlying39 info3 (by have := HTL.out; omega) fun vN wN hrN hbN hgN => ?_
           have HGn := HG.turn_fa hgN hrN;have HBn := Aside0.mk hbN
           refine hK.out _ _ (held18 HGn hiW) (fun hHeld => ?_)
           clear hK K
           refine norm_ (a' := ?_) ?_ ?_
           rotate_left
           ·show Act.put _ (some 82) _ = _
            simp only [Act.put, List.setIfInBounds_toArray, List.set_cons_zero, List.set_cons_succ, i64_w, i32_w]
            rfl
           exact nrm18 (hJ3_4_11_13_14 ⟨v3, vt1, (.slice Aq _ cq), vN⟩ _ ⟨⟨_, HGn⟩, HBn.out⟩)
          ·skip
           refine lit18 (Kd.int .u8) 5 (N := 91) (d) (.int .u8 d) 8 o HB fun vN wN hrN hbN hgN => ?_
           have HGn := HG.made_b23 hgN hrN;have HBn := Aside0.mk hbN
           refine hK.out _ _ (held18 HGn hiW) (fun hHeld => ?_)
           clear hK K
           refine norm_ (a' := ?_) ?_ ?_
           rotate_left
           ·show Act.put _ (some 91) _ = _
            simp only [Act.put, List.setIfInBounds_toArray, List.set_cons_zero, List.set_cons_succ, i64_w, i32_w]
            rfl
           exact nrm18 (hJ3_4_11_13_23 ⟨v3, vt1, v13, vN⟩ _ ⟨⟨_, HGn⟩, HBn.out⟩)
         intro hJ3_4_11_13
         refine join_ (σ := Value × Value × Value) 11 (bA 285188095) (fun s_ => [(71, s_.1), (72, s_.2.1), (79, .int .i64 (rd F (i : Int))), (80, .int .i64 (wrap64 (rd F (i : Int) + 1))), (91, s_.2.2), (96, .pointer (some ⟨gr, 0, none⟩))]) (fun (s_ : Value × Value × Value) w' => (∃ o, RG w' w.heap.size gb gr gt1 w5.heap.size (T.length + 1) #[.slice At T.length ct, .slice (some adF) F.length cf, .slice An N.length cn, .slice (some adW) W.length cw] #[.int .i64 gw, .int .i64 gh, .slice A9 gc.length c9] (updS f u.data.toList (T.length : Int)) o s_.2.1 (T ++ [u]) (.slice (some adF) F.length cf) (F) (.slice (some adW) W.length cw) W (.slice An N.length cn) N (.slice Ax X.length cx) X (s_.1) [u] (.slice none 0 0) [] (s_.2.2) [d] (.slice none 0 0) [] (.slice A9 gc.length c9) gc (.slice (some ad3) ([117, 114, 100, 108] : List Int).length c13) [117, 114, 100, 108]) ∧ Below w.heap.size w w') ?_ ?_
         ·skip
          rintro ⟨v3, vt1, v23⟩ wD ⟨⟨o, HG⟩, hB⟩
          have HB := Aside0.mk hB;clear hB;have hHeld := held18 HG hiW
          refine norm_ (a' := ?_) ?_ ?_
          rotate_left
          ·simp only [putAll, Act.put, List.setIfInBounds_toArray, List.set_cons_zero, List.set_cons_succ]
           rfl
          refine two_ (i := 13) (j := 24) (Ni := some 81) (Nj := some 92) (bA 285196287) (bA 301965311) rfl rfl rfl rfl (by kernel_rfl) (by decide) (by decide) (fun K hK => ?_) (fun K hK => ?_)
          ·skip
           refine lit18 (Kd.int .i64) 3 (N := 81) (wrap64 (rd F (i : Int) + 1)) (.int .i64 (wrap64 (rd F (i : Int) + 1))) 7 o HB fun vN wN hrN hbN hgN => ?_
           have HGn := HG.made_b13 hgN hrN;have HBn := Aside0.mk hbN
           refine hK.out _ _ (held18 HGn hiW) (fun hHeld => ?_)
           clear hK K
           refine norm_ (a' := ?_) ?_ ?_
           rotate_left
           ·show Act.put _ (some 81) _ = _
            simp only [Act.put, List.setIfInBounds_toArray, List.set_cons_zero, List.set_cons_succ, i64_w, i32_w]
            rfl
           exact nrm18 (hJ3_4_11_13_23 ⟨v3, vt1, vN, v23⟩ _ ⟨⟨_, HGn⟩, HBn.out⟩)
          ·skip
           obtain ⟨Aq, cq, eq⟩ := Kd.R_slice HG.b23;subst eq;have hcv := Kd.C_string (c := cq) Tryz.underlying36 Tryz.underlying5 Tryz.underlying9 (Kd.R_reads' HG.b23).2.2
           refine value_ (w1 := ?_) (v := ?_) (by rfl) rfl ?_ ?_
           rotate_left 2
           ·go_simp
            rw [show Sem.run Tryz.prog (convert 36 9 (Value.slice Aq 1 cq)) wD = _ from hcv]
            rfl
           have HGn := HG;have HBn := HB
           refine hK.out _ _ (held18 HGn hiW) (fun hHeld => ?_)
           clear hK K
           refine norm_ (a' := ?_) ?_ ?_
           rotate_left
           ·show Act.put _ (some 92) _ = _
            simp only [Act.put, List.setIfInBounds_toArray, List.set_cons_zero, List.set_cons_succ, i64_w, i32_w]
            rfl
           refine pure_ (i := 25) (N := some 93) (v := ?_) (a' := ?_) (bA 335519743) rfl rfl (by kernel_rfl) (fun _ _ _ h => h) (Or.inl ⟨by rfl, ?_⟩) ?_ ?_
           rotate_left
           ·intro w'
            go_simp
            first | with_reducible rfl | rw [if_neg hct]
           rotate_left
           ·simp only [Act.put, List.setIfInBounds_toArray, List.set_cons_zero, List.set_cons_succ, i64_w, i32_w]
            rfl
           exact nrm18 (hJ3_4_11_23_24 ⟨v3, vt1, (.slice Aq _ cq)⟩ _ ⟨⟨_, HGn⟩, HBn.out⟩)
         intro hJ3_4_11_23
         refine join_ (σ := Value × Value × Value) 11 (bA 335513599) (fun s_ => [(71, s_.1), (72, s_.2.1), (91, s_.2.2), (92, .string (strOfNums [d])), (93, .string (rdOf ByteArray.empty W (i : Int) ++ strOfNums [d])), (96, .pointer (some ⟨gr, 0, none⟩))]) (fun (s_ : Value × Value × Value) w' => (∃ o, RG w' w.heap.size gb gr gt1 w5.heap.size (T.length + 1) #[.slice At T.length ct, .slice (some adF) F.length cf, .slice An N.length cn, .slice (some adW) W.length cw] #[.int .i64 gw, .int .i64 gh, .slice A9 gc.length c9] (updS f u.data.toList (T.length : Int)) o s_.2.1 (T ++ [u]) (.slice (some adF) F.length cf) (F) (.slice (some adW) W.length cw) W (.slice An N.length cn) N (.slice Ax X.length cx) X (s_.1) [u] (.slice none 0 0) [] (s_.2.2) [d] (.slice none 0 0) [] (.slice A9 gc.length c9) gc (.slice (some ad3) ([117, 114, 100, 108] : List Int).length c13) [117, 114, 100, 108]) ∧ Below w.heap.size w w') ?_ ?_
         ·skip
          rintro ⟨v3, vt1, v23⟩ wD ⟨⟨o, HG⟩, hB⟩
          have HB := Aside0.mk hB;clear hB;have hHeld := held18 HG hiW
          refine norm_ (a' := ?_) ?_ ?_
          rotate_left
          ·simp only [putAll, Act.put, List.setIfInBounds_toArray, List.set_cons_zero, List.set_cons_succ]
           rfl
          refine two_ (i := 11) (j := 26) (Ni := some 79) (Nj := some 94) (bA 335515647) (bA 402622463) rfl rfl rfl rfl (by kernel_rfl) (by decide) (by decide) (fun K hK => ?_) (fun K hK => ?_)
          ·skip
           have hx11 := far18 HG hiF
           refine value_ (w1 := ?_) (v := ?_) (by rfl) rfl ?_ ?_
           rotate_left 2
           ·go_simp
            constructor
            ·rfl
            ·rfl
           have HGn := HG;have HBn := HB
           refine hK.out _ _ (held18 HGn hiW) (fun hHeld => ?_)
           clear hK K
           refine norm_ (a' := ?_) ?_ ?_
           rotate_left
           ·show Act.put _ (some 79) _ = _
            simp only [Act.put, List.setIfInBounds_toArray, List.set_cons_zero, List.set_cons_succ, i64_w, i32_w]
            rfl
           refine pure_ (i := 12) (N := some 80) (v := ?_) (a' := ?_) (bA 335519743) rfl rfl (by kernel_rfl) (fun _ _ _ h => h) (Or.inl ⟨by rfl, ?_⟩) ?_ ?_
           rotate_left
           ·intro w'
            go_simp
            with_reducible rfl
           rotate_left
           ·simp only [Act.put, List.setIfInBounds_toArray, List.set_cons_zero, List.set_cons_succ, i64_w, i32_w]
            rfl
           exact nrm18 (hJ3_4_11_23_24 ⟨v3, vt1, v23⟩ _ ⟨⟨_, HGn⟩, HBn.out⟩)
          ·skip
           refine lit18 Kd.string 9 (N := 94) (rdOf ByteArray.empty W (i : Int) ++ strOfNums [d]) (.string (rdOf ByteArray.empty W (i : Int) ++ strOfNums [d])) 9 o HB fun vN wN hrN hbN hgN => ?_
           have HGn := HG.made_b26 hgN hrN;have HBn := Aside0.mk hbN
           refine hK.out _ _ (held18 HGn hiW) (fun hHeld => ?_)
           clear hK K
           refine norm_ (a' := ?_) ?_ ?_
           rotate_left
           ·show Act.put _ (some 94) _ = _
            simp only [Act.put, List.setIfInBounds_toArray, List.set_cons_zero, List.set_cons_succ, i64_w, i32_w]
            rfl
           exact nrm18 (hJ3_4_23_24_26 ⟨v3, vt1, v23, vN⟩ _ ⟨⟨_, HGn⟩, HBn.out⟩)
         intro hJ3_4_23_24
         refine join_ (σ := Value × Value × Value) 12 (bA 16760815) (fun s_ => [(71, s_.1), (79, .int .i64 (rd F (i : Int))), (80, .int .i64 (wrap64 (rd F (i : Int) + 1))), (81, s_.2.1), (91, s_.2.2)]) (fun (s_ : Value × Value × Value) w' => (∃ o, RG w' w.heap.size gb gr gt1 w5.heap.size (T.length + 1) #[.slice At T.length ct, .slice (some adF) F.length cf, .slice An N.length cn, .slice (some adW) W.length cw] #[.int .i64 gw, .int .i64 gh, .slice A9 gc.length c9] (updS f u.data.toList (T.length : Int)) o (.slice At T.length ct) (T) (.slice (some adF) F.length cf) (F) (.slice (some adW) W.length cw) W (.slice An N.length cn) N (.slice Ax X.length cx) X (s_.1) [u] (s_.2.1) [wrap64 (rd F (i : Int) + 1)] (s_.2.2) [d] (.slice none 0 0) [] (.slice A9 gc.length c9) gc (.slice (some ad3) ([117, 114, 100, 108] : List Int).length c13) [117, 114, 100, 108]) ∧ Below w.heap.size w w') ?_ ?_
         ·skip
          rintro ⟨v3, v13, v23⟩ wD ⟨⟨o, HG⟩, hB⟩
          have HB := Aside0.mk hB;clear hB;have hHeld := held18 HG hiW
          refine norm_ (a' := ?_) ?_ ?_
          rotate_left
          ·simp only [putAll, Act.put, List.setIfInBounds_toArray, List.set_cons_zero, List.set_cons_succ]
           rfl
          refine two_ (i := 4) (j := 24) (Ni := some 72) (Nj := some 92) (bA 16760831) (bA 33538031) rfl rfl rfl rfl (by kernel_rfl) (by decide) (by decide) (fun K hK => ?_) (fun K hK => ?_)
          ·skip
           obtain ⟨Aq, cq, eq⟩ := Kd.R_slice HG.b3;subst eq
           refine app18 Kd.string (.tmp 69) (.tmp 71) 43 9 (.string ⟨#[]⟩) 16 (.slice At T.length ct) (T) (u) (Aq := Aq) (cq := cq) 1 o HB (rowg_at HG.t 1) (Kd.R_reads' HG.b3).2.2 Tryz.underlying43 info9 (by have := HTL.out; omega) fun vN wN hrN hbN hgN => ?_
           have HGn := HG.turn_t hgN hrN;have HBn := Aside0.mk hbN
           refine hK.out _ _ (held18 HGn hiW) (fun hHeld => ?_)
           clear hK K
           refine norm_ (a' := ?_) ?_ ?_
           rotate_left
           ·show Act.put _ (some 72) _ = _
            simp only [Act.put, List.setIfInBounds_toArray, List.set_cons_zero, List.set_cons_succ, i64_w, i32_w]
            rfl
           refine pure_ (i := 28) (N := some 96) (v := ?_) (a' := ?_) (bA 285196287) rfl rfl (by kernel_rfl) (fun _ _ _ h => h) (Or.inl ⟨by rfl, ?_⟩) ?_ ?_
           rotate_left
           ·intro w'
            go_simp
            with_reducible rfl
           rotate_left
           ·simp only [Act.put, List.setIfInBounds_toArray, List.set_cons_zero, List.set_cons_succ, i64_w, i32_w]
            rfl
           exact nrm18 (hJ3_4_11_13_23 ⟨(.slice Aq _ cq), vN, v13, v23⟩ _ ⟨⟨_, HGn⟩, HBn.out⟩)
          ·skip
           obtain ⟨Aq, cq, eq⟩ := Kd.R_slice HG.b23;subst eq;have hcv := Kd.C_string (c := cq) Tryz.underlying36 Tryz.underlying5 Tryz.underlying9 (Kd.R_reads' HG.b23).2.2
           refine value_ (w1 := ?_) (v := ?_) (by rfl) rfl ?_ ?_
           rotate_left 2
           ·go_simp
            rw [show Sem.run Tryz.prog (convert 36 9 (Value.slice Aq 1 cq)) wD = _ from hcv]
            rfl
           have HGn := HG;have HBn := HB
           refine hK.out _ _ (held18 HGn hiW) (fun hHeld => ?_)
           clear hK K
           refine norm_ (a' := ?_) ?_ ?_
           rotate_left
           ·show Act.put _ (some 92) _ = _
            simp only [Act.put, List.setIfInBounds_toArray, List.set_cons_zero, List.set_cons_succ, i64_w, i32_w]
            rfl
           refine pure_ (i := 25) (N := some 93) (v := ?_) (a' := ?_) (bA 67092463) rfl rfl (by kernel_rfl) (fun _ _ _ h => h) (Or.inl ⟨by rfl, ?_⟩) ?_ ?_
           rotate_left
           ·intro w'
            go_simp
            first | with_reducible rfl | rw [if_neg hct]
           rotate_left
           ·simp only [Act.put, List.setIfInBounds_toArray, List.set_cons_zero, List.set_cons_succ, i64_w, i32_w]
            rfl
           exact nrm18 (hJ3_11_13_23_24 ⟨v3, v13, (.slice Aq _ cq)⟩ _ ⟨⟨_, HGn⟩, HBn.out⟩)
         intro hJ3_11_13_23
         refine join_ (σ := Value × Value) 11 (bA 67084271) (fun s_ => [(71, s_.1), (79, .int .i64 (rd F (i : Int))), (80, .int .i64 (wrap64 (rd F (i : Int) + 1))), (91, s_.2), (92, .string (strOfNums [d])), (93, .string (rdOf ByteArray.empty W (i : Int) ++ strOfNums [d]))]) (fun (s_ : Value × Value) w' => (∃ o, RG w' w.heap.size gb gr gt1 w5.heap.size (T.length + 1) #[.slice At T.length ct, .slice (some adF) F.length cf, .slice An N.length cn, .slice (some adW) W.length cw] #[.int .i64 gw, .int .i64 gh, .slice A9 gc.length c9] (updS f u.data.toList (T.length : Int)) o (.slice At T.length ct) (T) (.slice (some adF) F.length cf) (F) (.slice (some adW) W.length cw) W (.slice An N.length cn) N (.slice Ax X.length cx) X (s_.1) [u] (.slice none 0 0) [] (s_.2) [d] (.slice none 0 0) [] (.slice A9 gc.length c9) gc (.slice (some ad3) ([117, 114, 100, 108] : List Int).length c13) [117, 114, 100, 108]) ∧ Below w.heap.size w w') ?_ ?_
         ·skip
          rintro ⟨v3, v23⟩ wD ⟨⟨o, HG⟩, hB⟩
          have HB := Aside0.mk hB;clear hB;have hHeld := held18 HG hiW
          refine norm_ (a' := ?_) ?_ ?_
          rotate_left
          ·simp only [putAll, Act.put, List.setIfInBounds_toArray, List.set_cons_zero, List.set_cons_succ]
           rfl
          refine three_ (i := 4) (j := 13) (k := 26) (Ni := some 72) (Nj := some 81) (Nk := some 94) (bA 67084287) (bA 67092463) (bA 134193135) rfl rfl rfl rfl rfl rfl (by kernel_rfl) (by decide) (by decide) (by decide) (fun K hK => ?_) (fun K hK => ?_) (fun K hK => ?_)
          ·skip
           obtain ⟨Aq, cq, eq⟩ := Kd.R_slice HG.b3;subst eq
           refine app18 Kd.string (.tmp 69) (.tmp 71) 43 9 (.string ⟨#[]⟩) 16 (.slice At T.length ct) (T) (u) (Aq := Aq) (cq := cq) 1 o HB (rowg_at HG.t 1) (Kd.R_reads' HG.b3).2.2 Tryz.underlying43 info9 (by have := HTL.out; omega) fun vN wN hrN hbN hgN => ?_
           have HGn := HG.turn_t hgN hrN;have HBn := Aside0.mk hbN
           refine hK.out _ _ (held18 HGn hiW) (fun hHeld => ?_)
           clear hK K
           refine norm_ (a' := ?_) ?_ ?_
           rotate_left
           ·show Act.put _ (some 72) _ = _
            simp only [Act.put, List.setIfInBounds_toArray, List.set_cons_zero, List.set_cons_succ, i64_w, i32_w]
            rfl
           refine pure_ (i := 28) (N := some 96) (v := ?_) (a' := ?_) (bA 335519743) rfl rfl (by kernel_rfl) (fun _ _ _ h => h) (Or.inl ⟨by rfl, ?_⟩) ?_ ?_
           rotate_left
           ·intro w'
            go_simp
            with_reducible rfl
           rotate_left
           ·simp only [Act.put, List.setIfInBounds_toArray, List.set_cons_zero, List.set_cons_succ, i64_w, i32_w]
            rfl
           exact nrm18 (hJ3_4_11_23_24 ⟨(.slice Aq _ cq), vN, v23⟩ _ ⟨⟨_, HGn⟩, HBn.out⟩)
          ·skip
           refine lit18 (Kd.int .i64) 3 (N := 81) (wrap64 (rd F (i : Int) + 1)) (.int .i64 (wrap64 (rd F (i : Int) + 1))) 7 o HB fun vN wN hrN hbN hgN => ?_
           have HGn := HG.made_b13 hgN hrN;have HBn := Aside0.mk hbN
           refine hK.out _ _ (held18 HGn hiW) (fun hHeld => ?_)
           clear hK K
           refine norm_ (a' := ?_) ?_ ?_
           rotate_left
           ·show Act.put _ (some 81) _ = _
            simp only [Act.put, List.setIfInBounds_toArray, List.set_cons_zero, List.set_cons_succ, i64_w, i32_w]
            rfl
           exact nrm18 (hJ3_11_13_23_24 ⟨v3, vN, v23⟩ _ ⟨⟨_, HGn⟩, HBn.out⟩)
          ·skip
           refine lit18 Kd.string 9 (N := 94) (rdOf ByteArray.empty W (i : Int) ++ strOfNums [d]) (.string (rdOf ByteArray.empty W (i : Int) ++ strOfNums [d])) 9 o HB fun vN wN hrN hbN hgN => ?_
           have HGn := HG.made_b26 hgN hrN;have HBn := Aside0.mk hbN
           refine hK.out _ _ (held18 HGn hiW) (fun hHeld => ?_)
           clear hK K
           refine norm_ (a' := ?_) ?_ ?_
           rotate_left
           ·show Act.put _ (some 94) _ = _
            simp only [Act.put, List.setIfInBounds_toArray, List.set_cons_zero, List.set_cons_succ, i64_w, i32_w]
            rfl
           exact nrm18 (hJ3_11_23_24_26 ⟨v3, v23, vN⟩ _ ⟨⟨_, HGn⟩, HBn.out⟩)
         intro hJ3_11_23_24
         refine join_ (σ := Value × Value × Value) 12 (bA 134186991) (fun s_ => [(71, s_.1), (91, s_.2.1), (92, .string (strOfNums [d])), (93, .string (rdOf ByteArray.empty W (i : Int) ++ strOfNums [d])), (94, s_.2.2)]) (fun (s_ : Value × Value × Value) w' => (∃ o, RG w' w.heap.size gb gr gt1 w5.heap.size (T.length + 1) #[.slice At T.length ct, .slice (some adF) F.length cf, .slice An N.length cn, .slice (some adW) W.length cw] #[.int .i64 gw, .int .i64 gh, .slice A9 gc.length c9] (updS f u.data.toList (T.length : Int)) o (.slice At T.length ct) (T) (.slice (some adF) F.length cf) (F) (.slice (some adW) W.length cw) W (.slice An N.length cn) N (.slice Ax X.length cx) X (s_.1) [u] (.slice none 0 0) [] (s_.2.1) [d] (s_.2.2) [rdOf ByteArray.empty W (i : Int) ++ strOfNums [d]] (.slice A9 gc.length c9) gc (.slice (some ad3) ([117, 114, 100, 108] : List Int).length c13) [117, 114, 100, 108]) ∧ Below w.heap.size w w') ?_ ?_
         ·skip
          rintro ⟨v3, v23, v26⟩ wD ⟨⟨o, HG⟩, hB⟩
          have HB := Aside0.mk hB;clear hB;have hHeld := held18 HG hiW
          refine norm_ (a' := ?_) ?_ ?_
          rotate_left
          ·simp only [putAll, Act.put, List.setIfInBounds_toArray, List.set_cons_zero, List.set_cons_succ]
           rfl
          refine two_ (i := 4) (j := 11) (Ni := some 72) (Nj := some 79) (bA 134187007) (bA 134189039) rfl rfl rfl rfl (by kernel_rfl) (by decide) (by decide) (fun K hK => ?_) (fun K hK => ?_)
          ·skip
           obtain ⟨Aq, cq, eq⟩ := Kd.R_slice HG.b3;subst eq
           refine app18 Kd.string (.tmp 69) (.tmp 71) 43 9 (.string ⟨#[]⟩) 16 (.slice At T.length ct) (T) (u) (Aq := Aq) (cq := cq) 1 o HB (rowg_at HG.t 1) (Kd.R_reads' HG.b3).2.2 Tryz.underlying43 info9 (by have := HTL.out; omega) fun vN wN hrN hbN hgN => ?_
           have HGn := HG.turn_t hgN hrN;have HBn := Aside0.mk hbN
           refine hK.out _ _ (held18 HGn hiW) (fun hHeld => ?_)
           clear hK K
           refine norm_ (a' := ?_) ?_ ?_
           rotate_left
           ·show Act.put _ (some 72) _ = _
            simp only [Act.put, List.setIfInBounds_toArray, List.set_cons_zero, List.set_cons_succ, i64_w, i32_w]
            rfl
           refine pure_ (i := 28) (N := some 96) (v := ?_) (a' := ?_) (bA 402622463) rfl rfl (by kernel_rfl) (fun _ _ _ h => h) (Or.inl ⟨by rfl, ?_⟩) ?_ ?_
           rotate_left
           ·intro w'
            go_simp
            with_reducible rfl
           rotate_left
           ·simp only [Act.put, List.setIfInBounds_toArray, List.set_cons_zero, List.set_cons_succ, i64_w, i32_w]
            rfl
           exact nrm18 (hJ3_4_23_24_26 ⟨(.slice Aq _ cq), vN, v23, v26⟩ _ ⟨⟨_, HGn⟩, HBn.out⟩)
          ·skip
           have hx11 := far18 HG hiF
           refine value_ (w1 := ?_) (v := ?_) (by rfl) rfl ?_ ?_
           rotate_left 2
           ·go_simp
            constructor
            ·rfl
            ·rfl
           have HGn := HG;have HBn := HB
           refine hK.out _ _ (held18 HGn hiW) (fun hHeld => ?_)
           clear hK K
           refine norm_ (a' := ?_) ?_ ?_
           rotate_left
           ·show Act.put _ (some 79) _ = _
            simp only [Act.put, List.setIfInBounds_toArray, List.set_cons_zero, List.set_cons_succ, i64_w, i32_w]
            rfl
           refine pure_ (i := 12) (N := some 80) (v := ?_) (a' := ?_) (bA 134193135) rfl rfl (by kernel_rfl) (fun _ _ _ h => h) (Or.inl ⟨by rfl, ?_⟩) ?_ ?_
           rotate_left
           ·intro w'
            go_simp
            with_reducible rfl
           rotate_left
           ·simp only [Act.put, List.setIfInBounds_toArray, List.set_cons_zero, List.set_cons_succ, i64_w, i32_w]
            rfl
           exact nrm18 (hJ3_11_23_24_26 ⟨v3, v23, v26⟩ _ ⟨⟨_, HGn⟩, HBn.out⟩)
         intro hJ3_23_24_26
         refine join_ (σ := Value × Value) 11 (bA 67092455) (fun s_ => [(79, .int .i64 (rd F (i : Int))), (80, .int .i64 (wrap64 (rd F (i : Int) + 1))), (81, s_.1), (91, s_.2), (92, .string (strOfNums [d])), (93, .string (rdOf ByteArray.empty W (i : Int) ++ strOfNums [d]))]) (fun (s_ : Value × Value) w' => (∃ o, RG w' w.heap.size gb gr gt1 w5.heap.size (T.length + 1) #[.slice At T.length ct, .slice (some adF) F.length cf, .slice An N.length cn, .slice (some adW) W.length cw] #[.int .i64 gw, .int .i64 gh, .slice A9 gc.length c9] (updS f u.data.toList (T.length : Int)) o (.slice At T.length ct) (T) (.slice (some adF) F.length cf) (F) (.slice (some adW) W.length cw) W (.slice An N.length cn) N (.slice Ax X.length cx) X (.slice none 0 0) [] (s_.1) [wrap64 (rd F (i : Int) + 1)] (s_.2) [d] (.slice none 0 0) [] (.slice A9 gc.length c9) gc (.slice (some ad3) ([117, 114, 100, 108] : List Int).length c13) [117, 114, 100, 108]) ∧ Below w.heap.size w w') ?_ ?_
         ·skip
          rintro ⟨v13, v23⟩ wD ⟨⟨o, HG⟩, hB⟩
          have HB := Aside0.mk hB;clear hB;have hHeld := held18 HG hiW
          refine norm_ (a' := ?_) ?_ ?_
          rotate_left
          ·simp only [putAll, Act.put, List.setIfInBounds_toArray, List.set_cons_zero, List.set_cons_succ]
           rfl
          refine two_ (i := 3) (j := 26) (Ni := some 71) (Nj := some 94) (bA 67092463) (bA 134201319) rfl rfl rfl rfl (by kernel_rfl) (by decide) (by decide) (fun K hK => ?_) (fun K hK => ?_)
          ·skip
           refine lit18 Kd.string 9 (N := 71) (u) (.string u) 6 o HB fun vN wN hrN hbN hgN => ?_
           have HGn := HG.made_b3 hgN hrN;have HBn := Aside0.mk hbN
           refine hK.out _ _ (held18 HGn hiW) (fun hHeld => ?_)
           clear hK K
           refine norm_ (a' := ?_) ?_ ?_
           rotate_left
           ·show Act.put _ (some 71) _ = _
            simp only [Act.put, List.setIfInBounds_toArray, List.set_cons_zero, List.set_cons_succ, i64_w, i32_w]
            rfl
           exact nrm18 (hJ3_11_13_23_24 ⟨vN, v13, v23⟩ _ ⟨⟨_, HGn⟩, HBn.out⟩)
          ·skip
           refine lit18 Kd.string 9 (N := 94) (rdOf ByteArray.empty W (i : Int) ++ strOfNums [d]) (.string (rdOf ByteArray.empty W (i : Int) ++ strOfNums [d])) 9 o HB fun vN wN hrN hbN hgN => ?_
           have HGn := HG.made_b26 hgN hrN;have HBn := Aside0.mk hbN
           refine hK.out _ _ (held18 HGn hiW) (fun hHeld => ?_)
           clear hK K
           refine norm_ (a' := ?_) ?_ ?_
           rotate_left
           ·show Act.put _ (some 94) _ = _
            simp only [Act.put, List.setIfInBounds_toArray, List.set_cons_zero, List.set_cons_succ, i64_w, i32_w]
            rfl
           exact nrm18 (hJ11_13_23_24_26 ⟨v13, v23, vN⟩ _ ⟨⟨_, HGn⟩, HBn.out⟩)
         intro hJ11_13_23_24
         refine join_ (σ := Value × Value) 11 (bA 134193127) (fun s_ => [(79, .int .i64 (rd F (i : Int))), (80, .int .i64 (wrap64 (rd F (i : Int) + 1))), (91, s_.1), (92, .string (strOfNums [d])), (93, .string (rdOf ByteArray.empty W (i : Int) ++ strOfNums [d])), (94, s_.2)]) (fun (s_ : Value × Value) w' => (∃ o, RG w' w.heap.size gb gr gt1 w5.heap.size (T.length + 1) #[.slice At T.length ct, .slice (some adF) F.length cf, .slice An N.length cn, .slice (some adW) W.length cw] #[.int .i64 gw, .int .i64 gh, .slice A9 gc.length c9] (updS f u.data.toList (T.length : Int)) o (.slice At T.length ct) (T) (.slice (some adF) F.length cf) (F) (.slice (some adW) W.length cw) W (.slice An N.length cn) N (.slice Ax X.length cx) X (.slice none 0 0) [] (.slice none 0 0) [] (s_.1) [d] (s_.2) [rdOf ByteArray.empty W (i : Int) ++ strOfNums [d]] (.slice A9 gc.length c9) gc (.slice (some ad3) ([117, 114, 100, 108] : List Int).length c13) [117, 114, 100, 108]) ∧ Below w.heap.size w w') ?_ ?_
         ·skip
          rintro ⟨v23, v26⟩ wD ⟨⟨o, HG⟩, hB⟩
          have HB := Aside0.mk hB;clear hB;have hHeld := held18 HG hiW
          refine norm_ (a' := ?_) ?_ ?_
          rotate_left
          ·simp only [putAll, Act.put, List.setIfInBounds_toArray, List.set_cons_zero, List.set_cons_succ]
           rfl
          refine two_ (i := 3) (j := 13) (Ni := some 71) (Nj := some 81) (bA 134193135) (bA 134201319) rfl rfl rfl rfl (by kernel_rfl) (by decide) (by decide) (fun K hK => ?_) (fun K hK => ?_)
          ·skip
           refine lit18 Kd.string 9 (N := 71) (u) (.string u) 6 o HB fun vN wN hrN hbN hgN => ?_
           have HGn := HG.made_b3 hgN hrN;have HBn := Aside0.mk hbN
           refine hK.out _ _ (held18 HGn hiW) (fun hHeld => ?_)
           clear hK K
           refine norm_ (a' := ?_) ?_ ?_
           rotate_left
           ·show Act.put _ (some 71) _ = _
            simp only [Act.put, List.setIfInBounds_toArray, List.set_cons_zero, List.set_cons_succ, i64_w, i32_w]
            rfl
           exact nrm18 (hJ3_11_23_24_26 ⟨vN, v23, v26⟩ _ ⟨⟨_, HGn⟩, HBn.out⟩)
          ·skip
           refine lit18 (Kd.int .i64) 3 (N := 81) (wrap64 (rd F (i : Int) + 1)) (.int .i64 (wrap64 (rd F (i : Int) + 1))) 7 o HB fun vN wN hrN hbN hgN => ?_
           have HGn := HG.made_b13 hgN hrN;have HBn := Aside0.mk hbN
           refine hK.out _ _ (held18 HGn hiW) (fun hHeld => ?_)
           clear hK K
           refine norm_ (a' := ?_) ?_ ?_
           rotate_left
           ·show Act.put _ (some 81) _ = _
            simp only [Act.put, List.setIfInBounds_toArray, List.set_cons_zero, List.set_cons_succ, i64_w, i32_w]
            rfl
           exact nrm18 (hJ11_13_23_24_26 ⟨vN, v23, v26⟩ _ ⟨⟨_, HGn⟩, HBn.out⟩)
         intro hJ11_23_24_26
         refine join_ (σ := Value × Value) 12 (bA 276799487) (fun s_ => [(71, s_.1), (72, s_.2), (79, .int .i64 (rd F (i : Int))), (80, .int .i64 (wrap64 (rd F (i : Int) + 1))), (96, .pointer (some ⟨gr, 0, none⟩))]) (fun (s_ : Value × Value) w' => (∃ o, RG w' w.heap.size gb gr gt1 w5.heap.size (T.length + 1) #[.slice At T.length ct, .slice (some adF) F.length cf, .slice An N.length cn, .slice (some adW) W.length cw] #[.int .i64 gw, .int .i64 gh, .slice A9 gc.length c9] (updS f u.data.toList (T.length : Int)) o s_.2 (T ++ [u]) (.slice (some adF) F.length cf) (F) (.slice (some adW) W.length cw) W (.slice An N.length cn) N (.slice Ax X.length cx) X (s_.1) [u] (.slice none 0 0) [] (.slice none 0 0) [] (.slice none 0 0) [] (.slice A9 gc.length c9) gc (.slice (some ad3) ([117, 114, 100, 108] : List Int).length c13) [117, 114, 100, 108]) ∧ Below w.heap.size w w') ?_ ?_
         ·skip
          rintro ⟨v3, vt1⟩ wD ⟨⟨o, HG⟩, hB⟩
          have HB := Aside0.mk hB;clear hB;have hHeld := held18 HG hiW
          refine norm_ (a' := ?_) ?_ ?_
          rotate_left
          ·simp only [putAll, Act.put, List.setIfInBounds_toArray, List.set_cons_zero, List.set_cons_succ]
           rfl
          refine two_ (i := 13) (j := 23) (Ni := some 81) (Nj := some 91) (bA 276807679) (bA 285188095) rfl rfl rfl rfl (by kernel_rfl) (by decide) (by decide) (fun K hK => ?_) (fun K hK => ?_)
          ·skip
           refine lit18 (Kd.int .i64) 3 (N := 81) (wrap64 (rd F (i : Int) + 1)) (.int .i64 (wrap64 (rd F (i : Int) + 1))) 7 o HB fun vN wN hrN hbN hgN => ?_
           have HGn := HG.made_b13 hgN hrN;have HBn := Aside0.mk hbN
           refine hK.out _ _ (held18 HGn hiW) (fun hHeld => ?_)
           clear hK K
           refine norm_ (a' := ?_) ?_ ?_
           rotate_left
           ·show Act.put _ (some 81) _ = _
            simp only [Act.put, List.setIfInBounds_toArray, List.set_cons_zero, List.set_cons_succ, i64_w, i32_w]
            rfl
           exact nrm18 (hJ3_4_11_13 ⟨v3, vt1, vN⟩ _ ⟨⟨_, HGn⟩, HBn.out⟩)
          ·skip
           refine lit18 (Kd.int .u8) 5 (N := 91) (d) (.int .u8 d) 8 o HB fun vN wN hrN hbN hgN => ?_
           have HGn := HG.made_b23 hgN hrN;have HBn := Aside0.mk hbN
           refine hK.out _ _ (held18 HGn hiW) (fun hHeld => ?_)
           clear hK K
           refine norm_ (a' := ?_) ?_ ?_
           rotate_left
           ·show Act.put _ (some 91) _ = _
            simp only [Act.put, List.setIfInBounds_toArray, List.set_cons_zero, List.set_cons_succ, i64_w, i32_w]
            rfl
           exact nrm18 (hJ3_4_11_23 ⟨v3, vt1, vN⟩ _ ⟨⟨_, HGn⟩, HBn.out⟩)
         intro hJ3_4_11
         refine join_ (σ := Value × Value × Value) 13 (bA 285181951) (fun s_ => [(71, s_.1), (72, s_.2.1), (91, s_.2.2), (96, .pointer (some ⟨gr, 0, none⟩))]) (fun (s_ : Value × Value × Value) w' => (∃ o, RG w' w.heap.size gb gr gt1 w5.heap.size (T.length + 1) #[.slice At T.length ct, .slice (some adF) F.length cf, .slice An N.length cn, .slice (some adW) W.length cw] #[.int .i64 gw, .int .i64 gh, .slice A9 gc.length c9] (updS f u.data.toList (T.length : Int)) o s_.2.1 (T ++ [u]) (.slice (some adF) F.length cf) (F) (.slice (some adW) W.length cw) W (.slice An N.length cn) N (.slice Ax X.length cx) X (s_.1) [u] (.slice none 0 0) [] (s_.2.2) [d] (.slice none 0 0) [] (.slice A9 gc.length c9) gc (.slice (some ad3) ([117, 114, 100, 108] : List Int).length c13) [117, 114, 100, 108]) ∧ Below w.heap.size w w') ?_ ?_
         ·skip
          rintro ⟨v3, vt1, v23⟩ wD ⟨⟨o, HG⟩, hB⟩
          have HB := Aside0.mk hB;clear hB;have hHeld := held18 HG hiW
          refine norm_ (a' := ?_) ?_ ?_
          rotate_left
          ·simp only [putAll, Act.put, List.setIfInBounds_toArray, List.set_cons_zero, List.set_cons_succ]
           rfl
          refine two_ (i := 11) (j := 24) (Ni := some 79) (Nj := some 92) (bA 285183999) (bA 301959167) rfl rfl rfl rfl (by kernel_rfl) (by decide) (by decide) (fun K hK => ?_) (fun K hK => ?_)
          ·skip
           have hx11 := far18 HG hiF
           refine value_ (w1 := ?_) (v := ?_) (by rfl) rfl ?_ ?_
           rotate_left 2
           ·go_simp
            constructor
            ·rfl
            ·rfl
           have HGn := HG;have HBn := HB
           refine hK.out _ _ (held18 HGn hiW) (fun hHeld => ?_)
           clear hK K
           refine norm_ (a' := ?_) ?_ ?_
           rotate_left
           ·show Act.put _ (some 79) _ = _
            simp only [Act.put, List.setIfInBounds_toArray, List.set_cons_zero, List.set_cons_succ, i64_w, i32_w]
            rfl
           refine pure_ (i := 12) (N := some 80) (v := ?_) (a' := ?_) (bA 285188095) rfl rfl (by kernel_rfl) (fun _ _ _ h => h) (Or.inl ⟨by rfl, ?_⟩) ?_ ?_
           rotate_left
           ·intro w'
            go_simp
            with_reducible rfl
           rotate_left
           ·simp only [Act.put, List.setIfInBounds_toArray, List.set_cons_zero, List.set_cons_succ, i64_w, i32_w]
            rfl
           exact nrm18 (hJ3_4_11_23 ⟨v3, vt1, v23⟩ _ ⟨⟨_, HGn⟩, HBn.out⟩)
          ·skip
           obtain ⟨Aq, cq, eq⟩ := Kd.R_slice HG.b23;subst eq;have hcv := Kd.C_string (c := cq) Tryz.underlying36 Tryz.underlying5 Tryz.underlying9 (Kd.R_reads' HG.b23).2.2
           refine value_ (w1 := ?_) (v := ?_) (by rfl) rfl ?_ ?_
           rotate_left 2
           ·go_simp
            rw [show Sem.run Tryz.prog (convert 36 9 (Value.slice Aq 1 cq)) wD = _ from hcv]
            rfl
           have HGn := HG;have HBn := HB
           refine hK.out _ _ (held18 HGn hiW) (fun hHeld => ?_)
           clear hK K
           refine norm_ (a' := ?_) ?_ ?_
           rotate_left
           ·show Act.put _ (some 92) _ = _
            simp only [Act.put, List.setIfInBounds_toArray, List.set_cons_zero, List.set_cons_succ, i64_w, i32_w]
            rfl
           refine pure_ (i := 25) (N := some 93) (v := ?_) (a' := ?_) (bA 335513599) rfl rfl (by kernel_rfl) (fun _ _ _ h => h) (Or.inl ⟨by rfl, ?_⟩) ?_ ?_
           rotate_left
           ·intro w'
            go_simp
            first | with_reducible rfl | rw [if_neg hct]
           rotate_left
           ·simp only [Act.put, List.setIfInBounds_toArray, List.set_cons_zero, List.set_cons_succ, i64_w, i32_w]
            rfl
           exact nrm18 (hJ3_4_23_24 ⟨v3, vt1, (.slice Aq _ cq)⟩ _ ⟨⟨_, HGn⟩, HBn.out⟩)
         intro hJ3_4_23
         refine join_ (σ := Value × Value) 13 (bA 8372207) (fun s_ => [(71, s_.1), (79, .int .i64 (rd F (i : Int))), (80, .int .i64 (wrap64 (rd F (i : Int) + 1))), (81, s_.2)]) (fun (s_ : Value × Value) w' => (∃ o, RG w' w.heap.size gb gr gt1 w5.heap.size (T.length + 1) #[.slice At T.length ct, .slice (some adF) F.length cf, .slice An N.length cn, .slice (some adW) W.length cw] #[.int .i64 gw, .int .i64 gh, .slice A9 gc.length c9] (updS f u.data.toList (T.length : Int)) o (.slice At T.length ct) (T) (.slice (some adF) F.length cf) (F) (.slice (some adW) W.length cw) W (.slice An N.length cn) N (.slice Ax X.length cx) X (s_.1) [u] (s_.2) [wrap64 (rd F (i : Int) + 1)] (.slice none 0 0) [] (.slice none 0 0) [] (.slice A9 gc.length c9) gc (.slice (some ad3) ([117, 114, 100, 108] : List Int).length c13) [117, 114, 100, 108]) ∧ Below w.heap.size w w') ?_ ?_
         ·skip
          rintro ⟨v3, v13⟩ wD ⟨⟨o, HG⟩, hB⟩
          have HB := Aside0.mk hB;clear hB;have hHeld := held18 HG hiW
          refine norm_ (a' := ?_) ?_ ?_
          rotate_left
          ·simp only [putAll, Act.put, List.setIfInBounds_toArray, List.set_cons_zero, List.set_cons_succ]
           rfl
          refine two_ (i := 4) (j := 23) (Ni := some 72) (Nj := some 91) (bA 8372223) (bA 16760815) rfl rfl rfl rfl (by kernel_rfl) (by decide) (by decide) (fun K hK => ?_) (fun K hK => ?_)
          ·skip
           obtain ⟨Aq, cq, eq⟩ := Kd.R_slice HG.b3;subst eq
           refine app18 Kd.string (.tmp 69) (.tmp 71) 43 9 (.string ⟨#[]⟩) 16 (.slice At T.length ct) (T) (u) (Aq := Aq) (cq := cq) 1 o HB (rowg_at HG.t 1) (Kd.R_reads' HG.b3).2.2 Tryz.underlying43 info9 (by have := HTL.out; omega) fun vN wN hrN hbN hgN => ?_
           have HGn := HG.turn_t hgN hrN;have HBn := Aside0.mk hbN
           refine hK.out _ _ (held18 HGn hiW) (fun hHeld => ?_)
           clear hK K
           refine norm_ (a' := ?_) ?_ ?_
           rotate_left
           ·show Act.put _ (some 72) _ = _
            simp only [Act.put, List.setIfInBounds_toArray, List.set_cons_zero, List.set_cons_succ, i64_w, i32_w]
            rfl
           refine pure_ (i := 28) (N := some 96) (v := ?_) (a' := ?_) (bA 276807679) rfl rfl (by kernel_rfl) (fun _ _ _ h => h) (Or.inl ⟨by rfl, ?_⟩) ?_ ?_
           rotate_left
           ·intro w'
            go_simp
            with_reducible rfl
           rotate_left
           ·simp only [Act.put, List.setIfInBounds_toArray, List.set_cons_zero, List.set_cons_succ, i64_w, i32_w]
            rfl
           exact nrm18 (hJ3_4_11_13 ⟨(.slice Aq _ cq), vN, v13⟩ _ ⟨⟨_, HGn⟩, HBn.out⟩)
          ·skip
           refine lit18 (Kd.int .u8) 5 (N := 91) (d) (.int .u8 d) 8 o HB fun vN wN hrN hbN hgN => ?_
           have HGn := HG.made_b23 hgN hrN;have HBn := Aside0.mk hbN
           refine hK.out _ _ (held18 HGn hiW) (fun hHeld => ?_)
           clear hK K
           refine norm_ (a' := ?_) ?_ ?_
           rotate_left
           ·show Act.put _ (some 91) _ = _
            simp only [Act.put, List.setIfInBounds_toArray, List.set_cons_zero, List.set_cons_succ, i64_w, i32_w]
            rfl
           exact nrm18 (hJ3_11_13_23 ⟨v3, v13, vN⟩ _ ⟨⟨_, HGn⟩, HBn.out⟩)
         intro hJ3_11_13
         refine join_ (σ := Value × Value) 13 (bA 16752623) (fun s_ => [(71, s_.1), (79, .int .i64 (rd F (i : Int))), (80, .int .i64 (wrap64 (rd F (i : Int) + 1))), (91, s_.2)]) (fun (s_ : Value × Value) w' => (∃ o, RG w' w.heap.size gb gr gt1 w5.heap.size (T.length + 1) #[.slice At T.length ct, .slice (some adF) F.length cf, .slice An N.length cn, .slice (some adW) W.length cw] #[.int .i64 gw, .int .i64 gh, .slice A9 gc.length c9] (updS f u.data.toList (T.length : Int)) o (.slice At T.length ct) (T) (.slice (some adF) F.length cf) (F) (.slice (some adW) W.length cw) W (.slice An N.length cn) N (.slice Ax X.length cx) X (s_.1) [u] (.slice none 0 0) [] (s_.2) [d] (.slice none 0 0) [] (.slice A9 gc.length c9) gc (.slice (some ad3) ([117, 114, 100, 108] : List Int).length c13) [117, 114, 100, 108]) ∧ Below w.heap.size w w') ?_ ?_
         ·skip
          rintro ⟨v3, v23⟩ wD ⟨⟨o, HG⟩, hB⟩
          have HB := Aside0.mk hB;clear hB;have hHeld := held18 HG hiW
          refine norm_ (a' := ?_) ?_ ?_
          rotate_left
          ·simp only [putAll, Act.put, List.setIfInBounds_toArray, List.set_cons_zero, List.set_cons_succ]
           rfl
          refine three_ (i := 4) (j := 13) (k := 24) (Ni := some 72) (Nj := some 81) (Nk := some 92) (bA 16752639) (bA 16760815) (bA 33529839) rfl rfl rfl rfl rfl rfl (by kernel_rfl) (by decide) (by decide) (by decide) (fun K hK => ?_) (fun K hK => ?_) (fun K hK => ?_)
          ·skip
           obtain ⟨Aq, cq, eq⟩ := Kd.R_slice HG.b3;subst eq
           refine app18 Kd.string (.tmp 69) (.tmp 71) 43 9 (.string ⟨#[]⟩) 16 (.slice At T.length ct) (T) (u) (Aq := Aq) (cq := cq) 1 o HB (rowg_at HG.t 1) (Kd.R_reads' HG.b3).2.2 Tryz.underlying43 info9 (by have := HTL.out; omega) fun vN wN hrN hbN hgN => ?_
           have HGn := HG.turn_t hgN hrN;have HBn := Aside0.mk hbN
           refine hK.out _ _ (held18 HGn hiW) (fun hHeld => ?_)
           clear hK K
           refine norm_ (a' := ?_) ?_ ?_
           rotate_left
           ·show Act.put _ (some 72) _ = _
            simp only [Act.put, List.setIfInBounds_toArray, List.set_cons_zero, List.set_cons_succ, i64_w, i32_w]
            rfl
           refine pure_ (i := 28) (N := some 96) (v := ?_) (a' := ?_) (bA 285188095) rfl rfl (by kernel_rfl) (fun _ _ _ h => h) (Or.inl ⟨by rfl, ?_⟩) ?_ ?_
           rotate_left
           ·intro w'
            go_simp
            with_reducible rfl
           rotate_left
           ·simp only [Act.put, List.setIfInBounds_toArray, List.set_cons_zero, List.set_cons_succ, i64_w, i32_w]
            rfl
           exact nrm18 (hJ3_4_11_23 ⟨(.slice Aq _ cq), vN, v23⟩ _ ⟨⟨_, HGn⟩, HBn.out⟩)
          ·skip
           refine lit18 (Kd.int .i64) 3 (N := 81) (wrap64 (rd F (i : Int) + 1)) (.int .i64 (wrap64 (rd F (i : Int) + 1))) 7 o HB fun vN wN hrN hbN hgN => ?_
           have HGn := HG.made_b13 hgN hrN;have HBn := Aside0.mk hbN
           refine hK.out _ _ (held18 HGn hiW) (fun hHeld => ?_)
           clear hK K
           refine norm_ (a' := ?_) ?_ ?_
           rotate_left
           ·show Act.put _ (some 81) _ = _
            simp only [Act.put, List.setIfInBounds_toArray, List.set_cons_zero, List.set_cons_succ, i64_w, i32_w]
            rfl
           exact nrm18 (hJ3_11_13_23 ⟨v3, vN, v23⟩ _ ⟨⟨_, HGn⟩, HBn.out⟩)
          ·skip
           obtain ⟨Aq, cq, eq⟩ := Kd.R_slice HG.b23;subst eq;have hcv := Kd.C_string (c := cq) Tryz.underlying36 Tryz.underlying5 Tryz.underlying9 (Kd.R_reads' HG.b23).2.2
           refine value_ (w1 := ?_) (v := ?_) (by rfl) rfl ?_ ?_
           rotate_left 2
           ·go_simp
            rw [show Sem.run Tryz.prog (convert 36 9 (Value.slice Aq 1 cq)) wD = _ from hcv]
            rfl
           have HGn := HG;have HBn := HB
           refine hK.out _ _ (held18 HGn hiW) (fun hHeld => ?_)
           clear hK K
           refine norm_ (a' := ?_) ?_ ?_
           rotate_left
           ·show Act.put _ (some 92) _ = _
            simp only [Act.put, List.setIfInBounds_toArray, List.set_cons_zero, List.set_cons_succ, i64_w, i32_w]
            rfl
           refine pure_ (i := 25) (N := some 93) (v := ?_) (a' := ?_) (bA 67084271) rfl rfl (by kernel_rfl) (fun _ _ _ h => h) (Or.inl ⟨by rfl, ?_⟩) ?_ ?_
           rotate_left
           ·intro w'
            go_simp
            first | with_reducible rfl | rw [if_neg hct]
           rotate_left
           ·simp only [Act.put, List.setIfInBounds_toArray, List.set_cons_zero, List.set_cons_succ, i64_w, i32_w]
            rfl
           exact nrm18 (hJ3_11_23_24 ⟨v3, (.slice Aq _ cq)⟩ _ ⟨⟨_, HGn⟩, HBn.out⟩)
         intro hJ3_11_23
         refine join_ (σ := Value × Value) 13 (bA 67078127) (fun s_ => [(71, s_.1), (91, s_.2), (92, .string (strOfNums [d])), (93, .string (rdOf ByteArray.empty W (i : Int) ++ strOfNums [d]))]) (fun (s_ : Value × Value) w' => (∃ o, RG w' w.heap.size gb gr gt1 w5.heap.size (T.length + 1) #[.slice At T.length ct, .slice (some adF) F.length cf, .slice An N.length cn, .slice (some adW) W.length cw] #[.int .i64 gw, .int .i64 gh, .slice A9 gc.length c9] (updS f u.data.toList (T.length : Int)) o (.slice At T.length ct) (T) (.slice (some adF) F.length cf) (F) (.slice (some adW) W.length cw) W (.slice An N.length cn) N (.slice Ax X.length cx) X (s_.1) [u] (.slice none 0 0) [] (s_.2) [d] (.slice none 0 0) [] (.slice A9 gc.length c9) gc (.slice (some ad3) ([117, 114, 100, 108] : List Int).length c13) [117, 114, 100, 108]) ∧ Below w.heap.size w w') ?_ ?_
         ·skip
          rintro ⟨v3, v23⟩ wD ⟨⟨o, HG⟩, hB⟩
          have HB := Aside0.mk hB;clear hB;have hHeld := held18 HG hiW
          refine norm_ (a' := ?_) ?_ ?_
          rotate_left
          ·simp only [putAll, Act.put, List.setIfInBounds_toArray, List.set_cons_zero, List.set_cons_succ]
           rfl
          refine three_ (i := 4) (j := 11) (k := 26) (Ni := some 72) (Nj := some 79) (Nk := some 94) (bA 67078143) (bA 67080175) (bA 134186991) rfl rfl rfl rfl rfl rfl (by kernel_rfl) (by decide) (by decide) (by decide) (fun K hK => ?_) (fun K hK => ?_) (fun K hK => ?_)
          ·skip
           obtain ⟨Aq, cq, eq⟩ := Kd.R_slice HG.b3;subst eq
           refine app18 Kd.string (.tmp 69) (.tmp 71) 43 9 (.string ⟨#[]⟩) 16 (.slice At T.length ct) (T) (u) (Aq := Aq) (cq := cq) 1 o HB (rowg_at HG.t 1) (Kd.R_reads' HG.b3).2.2 Tryz.underlying43 info9 (by have := HTL.out; omega) fun vN wN hrN hbN hgN => ?_
           have HGn := HG.turn_t hgN hrN;have HBn := Aside0.mk hbN
           refine hK.out _ _ (held18 HGn hiW) (fun hHeld => ?_)
           clear hK K
           refine norm_ (a' := ?_) ?_ ?_
           rotate_left
           ·show Act.put _ (some 72) _ = _
            simp only [Act.put, List.setIfInBounds_toArray, List.set_cons_zero, List.set_cons_succ, i64_w, i32_w]
            rfl
           refine pure_ (i := 28) (N := some 96) (v := ?_) (a' := ?_) (bA 335513599) rfl rfl (by kernel_rfl) (fun _ _ _ h => h) (Or.inl ⟨by rfl, ?_⟩) ?_ ?_
           rotate_left
           ·intro w'
            go_simp
            with_reducible rfl
           rotate_left
           ·simp only [Act.put, List.setIfInBounds_toArray, List.set_cons_zero, List.set_cons_succ, i64_w, i32_w]
            rfl
           exact nrm18 (hJ3_4_23_24 ⟨(.slice Aq _ cq), vN, v23⟩ _ ⟨⟨_, HGn⟩, HBn.out⟩)
          ·skip
           have hx11 := far18 HG hiF
           refine value_ (w1 := ?_) (v := ?_) (by rfl) rfl ?_ ?_
           rotate_left 2
           ·go_simp
            constructor
            ·rfl
            ·rfl
           have HGn := HG;have HBn := HB
           refine hK.out _ _ (held18 HGn hiW) (fun hHeld => ?_)
           clear hK K
           refine norm_ (a' := ?_) ?_ ?_
           rotate_left
           ·show Act.put _ (some 79) _ = _
            simp only [Act.put, List.setIfInBounds_toArray, List.set_cons_zero, List.set_cons_succ, i64_w, i32_w]
            rfl
           refine pure_ (i := 12) (N := some 80) (v := ?_) (a' := ?_) (bA 67084271) rfl rfl (by kernel_rfl) (fun _ _ _ h => h) (Or.inl ⟨by rfl, ?_⟩) ?_ ?_
           rotate_left
           ·intro w'
            go_simp
            with_reducible rfl
           rotate_left
           ·simp only [Act.put, List.setIfInBounds_toArray, List.set_cons_zero, List.set_cons_succ, i64_w, i32_w]
            rfl
           exact nrm18 (hJ3_11_23_24 ⟨v3, v23⟩ _ ⟨⟨_, HGn⟩, HBn.out⟩)
          ·skip
           refine lit18 Kd.string 9 (N := 94) (rdOf ByteArray.empty W (i : Int) ++ strOfNums [d]) (.string (rdOf ByteArray.empty W (i : Int) ++ strOfNums [d])) 9 o HB fun vN wN hrN hbN hgN => ?_
           have HGn := HG.made_b26 hgN hrN;have HBn := Aside0.mk hbN
           refine hK.out _ _ (held18 HGn hiW) (fun hHeld => ?_)
           clear hK K
           refine norm_ (a' := ?_) ?_ ?_
           rotate_left
           ·show Act.put _ (some 94) _ = _
            simp only [Act.put, List.setIfInBounds_toArray, List.set_cons_zero, List.set_cons_succ, i64_w, i32_w]
            rfl
           exact nrm18 (hJ3_23_24_26 ⟨v3, v23, vN⟩ _ ⟨⟨_, HGn⟩, HBn.out⟩)
         intro hJ3_23_24
         refine join_ (σ := Value × Value) 13 (bA 16760807) (fun s_ => [(79, .int .i64 (rd F (i : Int))), (80, .int .i64 (wrap64 (rd F (i : Int) + 1))), (81, s_.1), (91, s_.2)]) (fun (s_ : Value × Value) w' => (∃ o, RG w' w.heap.size gb gr gt1 w5.heap.size (T.length + 1) #[.slice At T.length ct, .slice (some adF) F.length cf, .slice An N.length cn, .slice (some adW) W.length cw] #[.int .i64 gw, .int .i64 gh, .slice A9 gc.length c9] (updS f u.data.toList (T.length : Int)) o (.slice At T.length ct) (T) (.slice (some adF) F.length cf) (F) (.slice (some adW) W.length cw) W (.slice An N.length cn) N (.slice Ax X.length cx) X (.slice none 0 0) [] (s_.1) [wrap64 (rd F (i : Int) + 1)] (s_.2) [d] (.slice none 0 0) [] (.slice A9 gc.length c9) gc (.slice (some ad3) ([117, 114, 100, 108] : List Int).length c13) [117, 114, 100, 108]) ∧ Below w.heap.size w w') ?_ ?_
         ·skip
          rintro ⟨v13, v23⟩ wD ⟨⟨o, HG⟩, hB⟩
          have HB := Aside0.mk hB;clear hB;have hHeld := held18 HG hiW
          refine norm_ (a' := ?_) ?_ ?_
          rotate_left
          ·simp only [putAll, Act.put, List.setIfInBounds_toArray, List.set_cons_zero, List.set_cons_succ]
           rfl
          refine two_ (i := 3) (j := 24) (Ni := some 71) (Nj := some 92) (bA 16760815) (bA 33538023) rfl rfl rfl rfl (by kernel_rfl) (by decide) (by decide) (fun K hK => ?_) (fun K hK => ?_)
          ·skip
           refine lit18 Kd.string 9 (N := 71) (u) (.string u) 6 o HB fun vN wN hrN hbN hgN => ?_
           have HGn := HG.made_b3 hgN hrN;have HBn := Aside0.mk hbN
           refine hK.out _ _ (held18 HGn hiW) (fun hHeld => ?_)
           clear hK K
           refine norm_ (a' := ?_) ?_ ?_
           rotate_left
           ·show Act.put _ (some 71) _ = _
            simp only [Act.put, List.setIfInBounds_toArray, List.set_cons_zero, List.set_cons_succ, i64_w, i32_w]
            rfl
           exact nrm18 (hJ3_11_13_23 ⟨vN, v13, v23⟩ _ ⟨⟨_, HGn⟩, HBn.out⟩)
          ·skip
           obtain ⟨Aq, cq, eq⟩ := Kd.R_slice HG.b23;subst eq;have hcv := Kd.C_string (c := cq) Tryz.underlying36 Tryz.underlying5 Tryz.underlying9 (Kd.R_reads' HG.b23).2.2
           refine value_ (w1 := ?_) (v := ?_) (by rfl) rfl ?_ ?_
           rotate_left 2
           ·go_simp
            rw [show Sem.run Tryz.prog (convert 36 9 (Value.slice Aq 1 cq)) wD = _ from hcv]
            rfl
           have HGn := HG;have HBn := HB
           refine hK.out _ _ (held18 HGn hiW) (fun hHeld => ?_)
           clear hK K
           refine norm_ (a' := ?_) ?_ ?_
           rotate_left
           ·show Act.put _ (some 92) _ = _
            simp only [Act.put, List.setIfInBounds_toArray, List.set_cons_zero, List.set_cons_succ, i64_w, i32_w]
            rfl
           refine pure_ (i := 25) (N := some 93) (v := ?_) (a' := ?_) (bA 67092455) rfl rfl (by kernel_rfl) (fun _ _ _ h => h) (Or.inl ⟨by rfl, ?_⟩) ?_ ?_
           rotate_left
           ·intro w'
            go_simp
            first | with_reducible rfl | rw [if_neg hct]
           rotate_left
           ·simp only [Act.put, List.setIfInBounds_toArray, List.set_cons_zero, List.set_cons_succ, i64_w, i32_w]
            rfl
           exact nrm18 (hJ11_13_23_24 ⟨v13, (.slice Aq _ cq)⟩ _ ⟨⟨_, HGn⟩, HBn.out⟩)
         intro hJ11_13_23
         refine join_ (σ := Value) 12 (bA 67084263) (fun s_ => [(79, .int .i64 (rd F (i : Int))), (80, .int .i64 (wrap64 (rd F (i : Int) + 1))), (91, s_), (92, .string (strOfNums [d])), (93, .string (rdOf ByteArray.empty W (i : Int) ++ strOfNums [d]))]) (fun (s_ : Value) w' => (∃ o, RG w' w.heap.size gb gr gt1 w5.heap.size (T.length + 1) #[.slice At T.length ct, .slice (some adF) F.length cf, .slice An N.length cn, .slice (some adW) W.length cw] #[.int .i64 gw, .int .i64 gh, .slice A9 gc.length c9] (updS f u.data.toList (T.length : Int)) o (.slice At T.length ct) (T) (.slice (some adF) F.length cf) (F) (.slice (some adW) W.length cw) W (.slice An N.length cn) N (.slice Ax X.length cx) X (.slice none 0 0) [] (.slice none 0 0) [] (s_) [d] (.slice none 0 0) [] (.slice A9 gc.length c9) gc (.slice (some ad3) ([117, 114, 100, 108] : List Int).length c13) [117, 114, 100, 108]) ∧ Below w.heap.size w w') ?_ ?_
         ·skip
          rintro v23 wD ⟨⟨o, HG⟩, hB⟩
          have HB := Aside0.mk hB;clear hB;have hHeld := held18 HG hiW
          refine norm_ (a' := ?_) ?_ ?_
          rotate_left
          ·simp only [putAll, Act.put, List.setIfInBounds_toArray, List.set_cons_zero, List.set_cons_succ]
           rfl
          refine three_ (i := 3) (j := 13) (k := 26) (Ni := some 71) (Nj := some 81) (Nk := some 94) (bA 67084271) (bA 67092455) (bA 134193127) rfl rfl rfl rfl rfl rfl (by kernel_rfl) (by decide) (by decide) (by decide) (fun K hK => ?_) (fun K hK => ?_) (fun K hK => ?_)
          ·skip
           refine lit18 Kd.string 9 (N := 71) (u) (.string u) 6 o HB fun vN wN hrN hbN hgN => ?_
           have HGn := HG.made_b3 hgN hrN;have HBn := Aside0.mk hbN
           refine hK.out _ _ (held18 HGn hiW) (fun hHeld => ?_)
           clear hK K
           refine norm_ (a' := ?_) ?_ ?_
           rotate_left
           ·show Act.put _ (some 71) _ = _
            simp only [Act.put, List.setIfInBounds_toArray, List.set_cons_zero, List.set_cons_succ, i64_w, i32_w]
            rfl
           exact nrm18 (hJ3_11_23_24 ⟨vN, v23⟩ _ ⟨⟨_, HGn⟩, HBn.out⟩)
          ·skip
           refine lit18 (Kd.int .i64) 3 (N := 81) (wrap64 (rd F (i : Int) + 1)) (.int .i64 (wrap64 (rd F (i : Int) + 1))) 7 o HB fun vN wN hrN hbN hgN => ?_
           have HGn := HG.made_b13 hgN hrN;have HBn := Aside0.mk hbN
           refine hK.out _ _ (held18 HGn hiW) (fun hHeld => ?_)
           clear hK K
           refine norm_ (a' := ?_) ?_ ?_
           rotate_left
           ·show Act.put _ (some 81) _ = _
            simp only [Act.put, List.setIfInBounds_toArray, List.set_cons_zero, List.set_cons_succ, i64_w, i32_w]
            rfl
           exact nrm18 (hJ11_13_23_24 ⟨vN, v23⟩ _ ⟨⟨_, HGn⟩, HBn.out⟩)
          ·skip
           refine lit18 Kd.string 9 (N := 94) (rdOf ByteArray.empty W (i : Int) ++ strOfNums [d]) (.string (rdOf ByteArray.empty W (i : Int) ++ strOfNums [d])) 9 o HB fun vN wN hrN hbN hgN => ?_
           have HGn := HG.made_b26 hgN hrN;have HBn := Aside0.mk hbN
           refine hK.out _ _ (held18 HGn hiW) (fun hHeld => ?_)
           clear hK K
           refine norm_ (a' := ?_) ?_ ?_
           rotate_left
           ·show Act.put _ (some 94) _ = _
            simp only [Act.put, List.setIfInBounds_toArray, List.set_cons_zero, List.set_cons_succ, i64_w, i32_w]
            rfl
           exact nrm18 (hJ11_23_24_26 ⟨v23, vN⟩ _ ⟨⟨_, HGn⟩, HBn.out⟩)
         intro hJ11_23_24
         refine join_ (σ := Value × Value) 13 (bA 134186983) (fun s_ => [(91, s_.1), (92, .string (strOfNums [d])), (93, .string (rdOf ByteArray.empty W (i : Int) ++ strOfNums [d])), (94, s_.2)]) (fun (s_ : Value × Value) w' => (∃ o, RG w' w.heap.size gb gr gt1 w5.heap.size (T.length + 1) #[.slice At T.length ct, .slice (some adF) F.length cf, .slice An N.length cn, .slice (some adW) W.length cw] #[.int .i64 gw, .int .i64 gh, .slice A9 gc.length c9] (updS f u.data.toList (T.length : Int)) o (.slice At T.length ct) (T) (.slice (some adF) F.length cf) (F) (.slice (some adW) W.length cw) W (.slice An N.length cn) N (.slice Ax X.length cx) X (.slice none 0 0) [] (.slice none 0 0) [] (s_.1) [d] (s_.2) [rdOf ByteArray.empty W (i : Int) ++ strOfNums [d]] (.slice A9 gc.length c9) gc (.slice (some ad3) ([117, 114, 100, 108] : List Int).length c13) [117, 114, 100, 108]) ∧ Below w.heap.size w w') ?_ ?_
         ·skip
          rintro ⟨v23, v26⟩ wD ⟨⟨o, HG⟩, hB⟩
          have HB := Aside0.mk hB;clear hB;have hHeld := held18 HG hiW
          refine norm_ (a' := ?_) ?_ ?_
          rotate_left
          ·simp only [putAll, Act.put, List.setIfInBounds_toArray, List.set_cons_zero, List.set_cons_succ]
           rfl
          refine two_ (i := 3) (j := 11) (Ni := some 71) (Nj := some 79) (bA 134186991) (bA 134189031) rfl rfl rfl rfl (by kernel_rfl) (by decide) (by decide) (fun K hK => ?_) (fun K hK => ?_)
          ·skip
           refine lit18 Kd.string 9 (N := 71) (u) (.string u) 6 o HB fun vN wN hrN hbN hgN => ?_
           have HGn := HG.made_b3 hgN hrN;have HBn := Aside0.mk hbN
           refine hK.out _ _ (held18 HGn hiW) (fun hHeld => ?_)
           clear hK K
           refine norm_ (a' := ?_) ?_ ?_
           rotate_left
           ·show Act.put _ (some 71) _ = _
            simp only [Act.put, List.setIfInBounds_toArray, List.set_cons_zero, List.set_cons_succ, i64_w, i32_w]
            rfl
           exact nrm18 (hJ3_23_24_26 ⟨vN, v23, v26⟩ _ ⟨⟨_, HGn⟩, HBn.out⟩)
          ·skip
           have hx11 := far18 HG hiF
           refine value_ (w1 := ?_) (v := ?_) (by rfl) rfl ?_ ?_
           rotate_left 2
           ·go_simp
            constructor
            ·rfl
            ·rfl
           have HGn := HG;have HBn := HB
           refine hK.out _ _ (held18 HGn hiW) (fun hHeld => ?_)
           clear hK K
           refine norm_ (a' := ?_) ?_ ?_
           rotate_left
           ·show Act.put _ (some 79) _ = _
            simp only [Act.put, List.setIfInBounds_toArray, List.set_cons_zero, List.set_cons_succ, i64_w, i32_w]
            rfl
           refine pure_ (i := 12) (N := some 80) (v := ?_) (a' := ?_) (bA 134193127) rfl rfl (by kernel_rfl) (fun _ _ _ h => h) (Or.inl ⟨by rfl, ?_⟩) ?_ ?_
           rotate_left
           ·intro w'
            go_simp
            with_reducible rfl
           rotate_left
           ·simp only [Act.put, List.setIfInBounds_toArray, List.set_cons_zero, List.set_cons_succ, i64_w, i32_w]
            rfl
           exact nrm18 (hJ11_23_24_26 ⟨v23, v26⟩ _ ⟨⟨_, HGn⟩, HBn.out⟩)
         intro hJ23_24_26
         refine join_ (σ := Value × Value) 14 (bA 276793343) (fun s_ => [(71, s_.1), (72, s_.2), (96, .pointer (some ⟨gr, 0, none⟩))]) (fun (s_ : Value × Value) w' => (∃ o, RG w' w.heap.size gb gr gt1 w5.heap.size (T.length + 1) #[.slice At T.length ct, .slice (some adF) F.length cf, .slice An N.length cn, .slice (some adW) W.length cw] #[.int .i64 gw, .int .i64 gh, .slice A9 gc.length c9] (updS f u.data.toList (T.length : Int)) o s_.2 (T ++ [u]) (.slice (some adF) F.length cf) (F) (.slice (some adW) W.length cw) W (.slice An N.length cn) N (.slice Ax X.length cx) X (s_.1) [u] (.slice none 0 0) [] (.slice none 0 0) [] (.slice none 0 0) [] (.slice A9 gc.length c9) gc (.slice (some ad3) ([117, 114, 100, 108] : List Int).length c13) [117, 114, 100, 108]) ∧ Below w.heap.size w w') ?_ ?_
         ·skip
          rintro ⟨v3, vt1⟩ wD ⟨⟨o, HG⟩, hB⟩
          have HB := Aside0.mk hB;clear hB;have hHeld := held18 HG hiW
          refine norm_ (a' := ?_) ?_ ?_
          rotate_left
          ·simp only [putAll, Act.put, List.setIfInBounds_toArray, List.set_cons_zero, List.set_cons_succ]
           rfl
          refine two_ (i := 11) (j := 23) (Ni := some 79) (Nj := some 91) (bA 276795391) (bA 285181951) rfl rfl rfl rfl (by kernel_rfl) (by decide) (by decide) (fun K hK => ?_) (fun K hK => ?_)
          ·skip
           have hx11 := far18 HG hiF
           refine value_ (w1 := ?_) (v := ?_) (by rfl) rfl ?_ ?_
           rotate_left 2
           ·go_simp
            constructor
            ·rfl
            ·rfl
           have HGn := HG;have HBn := HB
           refine hK.out _ _ (held18 HGn hiW) (fun hHeld => ?_)
           clear hK K
           refine norm_ (a' := ?_) ?_ ?_
           rotate_left
           ·show Act.put _ (some 79) _ = _
            simp only [Act.put, List.setIfInBounds_toArray, List.set_cons_zero, List.set_cons_succ, i64_w, i32_w]
            rfl
           refine pure_ (i := 12) (N := some 80) (v := ?_) (a' := ?_) (bA 276799487) rfl rfl (by kernel_rfl) (fun _ _ _ h => h) (Or.inl ⟨by rfl, ?_⟩) ?_ ?_
           rotate_left
           ·intro w'
            go_simp
            with_reducible rfl
           rotate_left
           ·simp only [Act.put, List.setIfInBounds_toArray, List.set_cons_zero, List.set_cons_succ, i64_w, i32_w]
            rfl
           exact nrm18 (hJ3_4_11 ⟨v3, vt1⟩ _ ⟨⟨_, HGn⟩, HBn.out⟩)
          ·skip
           refine lit18 (Kd.int .u8) 5 (N := 91) (d) (.int .u8 d) 8 o HB fun vN wN hrN hbN hgN => ?_
           have HGn := HG.made_b23 hgN hrN;have HBn := Aside0.mk hbN
           refine hK.out _ _ (held18 HGn hiW) (fun hHeld => ?_)
           clear hK K
           refine norm_ (a' := ?_) ?_ ?_
           rotate_left
           ·show Act.put _ (some 91) _ = _
            simp only [Act.put, List.setIfInBounds_toArray, List.set_cons_zero, List.set_cons_succ, i64_w, i32_w]
            rfl
           exact nrm18 (hJ3_4_23 ⟨v3, vt1, vN⟩ _ ⟨⟨_, HGn⟩, HBn.out⟩)
         intro hJ3_4
         refine join_ (σ := Value) 14 (bA 8364015) (fun s_ => [(71, s_), (79, .int .i64 (rd F (i : Int))), (80, .int .i64 (wrap64 (rd F (i : Int) + 1)))]) (fun (s_ : Value) w' => (∃ o, RG w' w.heap.size gb gr gt1 w5.heap.size (T.length + 1) #[.slice At T.length ct, .slice (some adF) F.length cf, .slice An N.length cn, .slice (some adW) W.length cw] #[.int .i64 gw, .int .i64 gh, .slice A9 gc.length c9] (updS f u.data.toList (T.length : Int)) o (.slice At T.length ct) (T) (.slice (some adF) F.length cf) (F) (.slice (some adW) W.length cw) W (.slice An N.length cn) N (.slice Ax X.length cx) X (s_) [u] (.slice none 0 0) [] (.slice none 0 0) [] (.slice none 0 0) [] (.slice A9 gc.length c9) gc (.slice (some ad3) ([117, 114, 100, 108] : List Int).length c13) [117, 114, 100, 108]) ∧ Below w.heap.size w w') ?_ ?_
         ·skip
          rintro v3 wD ⟨⟨o, HG⟩, hB⟩
          have HB := Aside0.mk hB;clear hB;have hHeld := held18 HG hiW
          refine norm_ (a' := ?_) ?_ ?_
          rotate_left
          ·simp only [putAll, Act.put, List.setIfInBounds_toArray, List.set_cons_zero, List.set_cons_succ]
           rfl
          refine three_ (i := 4) (j := 13) (k := 23) (Ni := some 72) (Nj := some 81) (Nk := some 91) (bA 8364031) (bA 8372207) (bA 16752623) rfl rfl rfl rfl rfl rfl (by kernel_rfl) (by decide) (by decide) (by decide) (fun K hK => ?_) (fun K hK => ?_) (fun K hK => ?_)
          ·skip
           obtain ⟨Aq, cq, eq⟩ := Kd.R_slice HG.b3;subst eq
           refine app18 Kd.string (.tmp 69) (.tmp 71) 43 9 (.string ⟨#[]⟩) 16 (.slice At T.length ct) (T) (u) (Aq := Aq) (cq := cq) 1 o HB (rowg_at HG.t 1) (Kd.R_reads' HG.b3).2.2 Tryz.underlying43 info9 (by have := HTL.out; omega) fun vN wN hrN hbN hgN => ?_
           have HGn := HG.turn_t hgN hrN;have HBn := Aside0.mk hbN
           refine hK.out _ _ (held18 HGn hiW) (fun hHeld => ?_)
           clear hK K
           refine norm_ (a' := ?_) ?_ ?_
           rotate_left
           ·show Act.put _ (some 72) _ = _
            simp only [Act.put, List.setIfInBounds_toArray, List.set_cons_zero, List.set_cons_succ, i64_w, i32_w]
            rfl
           refine pure_ (i := 28) (N := some 96) (v := ?_) (a' := ?_) (bA 276799487) rfl rfl (by kernel_rfl) (fun _ _ _ h => h) (Or.inl ⟨by rfl, ?_⟩) ?_ ?_
           rotate_left
           ·intro w'
            go_simp
            with_reducible rfl
           rotate_left
           ·simp only [Act.put, List.setIfInBounds_toArray, List.set_cons_zero, List.set_cons_succ, i64_w, i32_w]
            rfl
           exact nrm18 (hJ3_4_11 ⟨(.slice Aq _ cq), vN⟩ _ ⟨⟨_, HGn⟩, HBn.out⟩)
          ·skip
           refine lit18 (Kd.int .i64) 3 (N := 81) (wrap64 (rd F (i : Int) + 1)) (.int .i64 (wrap64 (rd F (i : Int) + 1))) 7 o HB fun vN wN hrN hbN hgN => ?_
           have HGn := HG.made_b13 hgN hrN;have HBn := Aside0.mk hbN
           refine hK.out _ _ (held18 HGn hiW) (fun hHeld => ?_)
           clear hK K
           refine norm_ (a' := ?_) ?_ ?_
           rotate_left
           ·show Act.put _ (some 81) _ = _
            simp only [Act.put, List.setIfInBounds_toArray, List.set_cons_zero, List.set_cons_succ, i64_w, i32_w]
            rfl
           exact nrm18 (hJ3_11_13 ⟨v3, vN⟩ _ ⟨⟨_, HGn⟩, HBn.out⟩)
          ·skip
           refine lit18 (Kd.int .u8) 5 (N := 91) (d) (.int .u8 d) 8 o HB fun vN wN hrN hbN hgN => ?_
           have HGn := HG.made_b23 hgN hrN;have HBn := Aside0.mk hbN
           refine hK.out _ _ (held18 HGn hiW) (fun hHeld => ?_)
           clear hK K
           refine norm_ (a' := ?_) ?_ ?_
           rotate_left
           ·show Act.put _ (some 91) _ = _
            simp only [Act.put, List.setIfInBounds_toArray, List.set_cons_zero, List.set_cons_succ, i64_w, i32_w]
            rfl
           exact nrm18 (hJ3_11_23 ⟨v3, vN⟩ _ ⟨⟨_, HGn⟩, HBn.out⟩)
         intro hJ3_11
         refine join_ (σ := Value × Value) 15 (bA 16746479) (fun s_ => [(71, s_.1), (91, s_.2)]) (fun (s_ : Value × Value) w' => (∃ o, RG w' w.heap.size gb gr gt1 w5.heap.size (T.length + 1) #[.slice At T.length ct, .slice (some adF) F.length cf, .slice An N.length cn, .slice (some adW) W.length cw] #[.int .i64 gw, .int .i64 gh, .slice A9 gc.length c9] (updS f u.data.toList (T.length : Int)) o (.slice At T.length ct) (T) (.slice (some adF) F.length cf) (F) (.slice (some adW) W.length cw) W (.slice An N.length cn) N (.slice Ax X.length cx) X (s_.1) [u] (.slice none 0 0) [] (s_.2) [d] (.slice none 0 0) [] (.slice A9 gc.length c9) gc (.slice (some ad3) ([117, 114, 100, 108] : List Int).length c13) [117, 114, 100, 108]) ∧ Below w.heap.size w w') ?_ ?_
         ·skip
          rintro ⟨v3, v23⟩ wD ⟨⟨o, HG⟩, hB⟩
          have HB := Aside0.mk hB;clear hB;have hHeld := held18 HG hiW
          refine norm_ (a' := ?_) ?_ ?_
          rotate_left
          ·simp only [putAll, Act.put, List.setIfInBounds_toArray, List.set_cons_zero, List.set_cons_succ]
           rfl
          refine three_ (i := 4) (j := 11) (k := 24) (Ni := some 72) (Nj := some 79) (Nk := some 92) (bA 16746495) (bA 16748527) (bA 33523695) rfl rfl rfl rfl rfl rfl (by kernel_rfl) (by decide) (by decide) (by decide) (fun K hK => ?_) (fun K hK => ?_) (fun K hK => ?_)
          ·skip
           obtain ⟨Aq, cq, eq⟩ := Kd.R_slice HG.b3;subst eq
           refine app18 Kd.string (.tmp 69) (.tmp 71) 43 9 (.string ⟨#[]⟩) 16 (.slice At T.length ct) (T) (u) (Aq := Aq) (cq := cq) 1 o HB (rowg_at HG.t 1) (Kd.R_reads' HG.b3).2.2 Tryz.underlying43 info9 (by have := HTL.out; omega) fun vN wN hrN hbN hgN => ?_
           have HGn := HG.turn_t hgN hrN;have HBn := Aside0.mk hbN
           refine hK.out _ _ (held18 HGn hiW) (fun hHeld => ?_)
           clear hK K
           refine norm_ (a' := ?_) ?_ ?_
           rotate_left
           ·show Act.put _ (some 72) _ = _
            simp only [Act.put, List.setIfInBounds_toArray, List.set_cons_zero, List.set_cons_succ, i64_w, i32_w]
            rfl
           refine pure_ (i := 28) (N := some 96) (v := ?_) (a' := ?_) (bA 285181951) rfl rfl (by kernel_rfl) (fun _ _ _ h => h) (Or.inl ⟨by rfl, ?_⟩) ?_ ?_
           rotate_left
           ·intro w'
            go_simp
            with_reducible rfl
           rotate_left
           ·simp only [Act.put, List.setIfInBounds_toArray, List.set_cons_zero, List.set_cons_succ, i64_w, i32_w]
            rfl
           exact nrm18 (hJ3_4_23 ⟨(.slice Aq _ cq), vN, v23⟩ _ ⟨⟨_, HGn⟩, HBn.out⟩)
          ·skip
           have hx11 := far18 HG hiF
           refine value_ (w1 := ?_) (v := ?_) (by rfl) rfl ?_ ?_
           rotate_left 2
           ·go_simp
            constructor
            ·rfl
            ·rfl
           have HGn := HG;have HBn := HB
           refine hK.out _ _ (held18 HGn hiW) (fun hHeld => ?_)
           clear hK K
           refine norm_ (a' := ?_) ?_ ?_
           rotate_left
           ·show Act.put _ (some 79) _ = _
            simp only [Act.put, List.setIfInBounds_toArray, List.set_cons_zero, List.set_cons_succ, i64_w, i32_w]
            rfl
           refine pure_ (i := 12) (N := some 80) (v := ?_) (a' := ?_) (bA 16752623) rfl rfl (by kernel_rfl) (fun _ _ _ h => h) (Or.inl ⟨by rfl, ?_⟩) ?_ ?_
           rotate_left
           ·intro w'
            go_simp
            with_reducible rfl
           rotate_left
           ·simp only [Act.put, List.setIfInBounds_toArray, List.set_cons_zero, List.set_cons_succ, i64_w, i32_w]
            rfl
           exact nrm18 (hJ3_11_23 ⟨v3, v23⟩ _ ⟨⟨_, HGn⟩, HBn.out⟩)
          ·skip
           obtain ⟨Aq, cq, eq⟩ := Kd.R_slice HG.b23;subst eq;have hcv := Kd.C_string (c := cq) Tryz.underlying36 Tryz.underlying5 Tryz.underlying9 (Kd.R_reads' HG.b23).2.2
           refine value_ (w1 := ?_) (v := ?_) (by rfl) rfl ?_ ?_
           rotate_left 2
           ·go_simp
            rw [show Sem.run Tryz.prog (convert 36 9 (Value.slice Aq 1 cq)) wD = _ from hcv]
            rfl
           have HGn := HG;have HBn := HB
           refine hK.out _ _ (held18 HGn hiW) (fun hHeld => ?_)
           clear hK K
           refine norm_ (a' := ?_) ?_ ?_
           rotate_left
           ·show Act.put _ (some 92) _ = _
            simp only [Act.put, List.setIfInBounds_toArray, List.set_cons_zero, List.set_cons_succ, i64_w, i32_w]
            rfl
           refine pure_ (i := 25) (N := some 93) (v := ?_) (a' := ?_) (bA 67078127) rfl rfl (by kernel_rfl) (fun _ _ _ h => h) (Or.inl ⟨by rfl, ?_⟩) ?_ ?_
           rotate_left
           ·intro w'
            go_simp
            first | with_reducible rfl | rw [if_neg hct]
           rotate_left
           ·simp only [Act.put, List.setIfInBounds_toArray, List.set_cons_zero, List.set_cons_succ, i64_w, i32_w]
            rfl
           exact nrm18 (hJ3_23_24 ⟨v3, (.slice Aq _ cq)⟩ _ ⟨⟨_, HGn⟩, HBn.out⟩)
         intro hJ3_23
         refine join_ (σ := Value) 14 (bA 8372199) (fun s_ => [(79, .int .i64 (rd F (i : Int))), (80, .int .i64 (wrap64 (rd F (i : Int) + 1))), (81, s_)]) (fun (s_ : Value) w' => (∃ o, RG w' w.heap.size gb gr gt1 w5.heap.size (T.length + 1) #[.slice At T.length ct, .slice (some adF) F.length cf, .slice An N.length cn, .slice (some adW) W.length cw] #[.int .i64 gw, .int .i64 gh, .slice A9 gc.length c9] (updS f u.data.toList (T.length : Int)) o (.slice At T.length ct) (T) (.slice (some adF) F.length cf) (F) (.slice (some adW) W.length cw) W (.slice An N.length cn) N (.slice Ax X.length cx) X (.slice none 0 0) [] (s_) [wrap64 (rd F (i : Int) + 1)] (.slice none 0 0) [] (.slice none 0 0) [] (.slice A9 gc.length c9) gc (.slice (some ad3) ([117, 114, 100, 108] : List Int).length c13) [117, 114, 100, 108]) ∧ Below w.heap.size w w') ?_ ?_
         ·skip
          rintro v13 wD ⟨⟨o, HG⟩, hB⟩
          have HB := Aside0.mk hB;clear hB;have hHeld := held18 HG hiW
          refine norm_ (a' := ?_) ?_ ?_
          rotate_left
          ·simp only [putAll, Act.put, List.setIfInBounds_toArray, List.set_cons_zero, List.set_cons_succ]
           rfl
          refine two_ (i := 3) (j := 23) (Ni := some 71) (Nj := some 91) (bA 8372207) (bA 16760807) rfl rfl rfl rfl (by kernel_rfl) (by decide) (by decide) (fun K hK => ?_) (fun K hK => ?_)
          ·skip
           refine lit18 Kd.string 9 (N := 71) (u) (.string u) 6 o HB fun vN wN hrN hbN hgN => ?_
           have HGn := HG.made_b3 hgN hrN;have HBn := Aside0.mk hbN
           refine hK.out _ _ (held18 HGn hiW) (fun hHeld => ?_)
           clear hK K
           refine norm_ (a' := ?_) ?_ ?_
           rotate_left
           ·show Act.put _ (some 71) _ = _
            simp only [Act.put, List.setIfInBounds_toArray, List.set_cons_zero, List.set_cons_succ, i64_w, i32_w]
            rfl
           exact nrm18 (hJ3_11_13 ⟨vN, v13⟩ _ ⟨⟨_, HGn⟩, HBn.out⟩)
          ·skip
           refine lit18 (Kd.int .u8) 5 (N := 91) (d) (.int .u8 d) 8 o HB fun vN wN hrN hbN hgN => ?_
           have HGn := HG.made_b23 hgN hrN;have HBn := Aside0.mk hbN
           refine hK.out _ _ (held18 HGn hiW) (fun hHeld => ?_)
           clear hK K
           refine norm_ (a' := ?_) ?_ ?_
           rotate_left
           ·show Act.put _ (some 91) _ = _
            simp only [Act.put, List.setIfInBounds_toArray, List.set_cons_zero, List.set_cons_succ, i64_w, i32_w]
            rfl
           exact nrm18 (hJ11_13_23 ⟨v13, vN⟩ _ ⟨⟨_, HGn⟩, HBn.out⟩)
         intro hJ11_13
         refine join_ (σ := Value) 14 (bA 16752615) (fun s_ => [(79, .int .i64 (rd F (i : Int))), (80, .int .i64 (wrap64 (rd F (i : Int) + 1))), (91, s_)]) (fun (s_ : Value) w' => (∃ o, RG w' w.heap.size gb gr gt1 w5.heap.size (T.length + 1) #[.slice At T.length ct, .slice (some adF) F.length cf, .slice An N.length cn, .slice (some adW) W.length cw] #[.int .i64 gw, .int .i64 gh, .slice A9 gc.length c9] (updS f u.data.toList (T.length : Int)) o (.slice At T.length ct) (T) (.slice (some adF) F.length cf) (F) (.slice (some adW) W.length cw) W (.slice An N.length cn) N (.slice Ax X.length cx) X (.slice none 0 0) [] (.slice none 0 0) [] (s_) [d] (.slice none 0 0) [] (.slice A9 gc.length c9) gc (.slice (some ad3) ([117, 114, 100, 108] : List Int).length c13) [117, 114, 100, 108]) ∧ Below w.heap.size w w') ?_ ?_
         ·skip
          rintro v23 wD ⟨⟨o, HG⟩, hB⟩
          have HB := Aside0.mk hB;clear hB;have hHeld := held18 HG hiW
          refine norm_ (a' := ?_) ?_ ?_
          rotate_left
          ·simp only [putAll, Act.put, List.setIfInBounds_toArray, List.set_cons_zero, List.set_cons_succ]
           rfl
          refine three_ (i := 3) (j := 13) (k := 24) (Ni := some 71) (Nj := some 81) (Nk := some 92) (bA 16752623) (bA 16760807) (bA 33529831) rfl rfl rfl rfl rfl rfl (by kernel_rfl) (by decide) (by decide) (by decide) (fun K hK => ?_) (fun K hK => ?_) (fun K hK => ?_)
          ·skip
           refine lit18 Kd.string 9 (N := 71) (u) (.string u) 6 o HB fun vN wN hrN hbN hgN => ?_
           have HGn := HG.made_b3 hgN hrN;have HBn := Aside0.mk hbN
           refine hK.out _ _ (held18 HGn hiW) (fun hHeld => ?_)
           clear hK K
           refine norm_ (a' := ?_) ?_ ?_
           rotate_left
           ·show Act.put _ (some 71) _ = _
            simp only [Act.put, List.setIfInBounds_toArray, List.set_cons_zero, List.set_cons_succ, i64_w, i32_w]
            rfl
           exact nrm18 (hJ3_11_23 ⟨vN, v23⟩ _ ⟨⟨_, HGn⟩, HBn.out⟩)
          ·skip
           refine lit18 (Kd.int .i64) 3 (N := 81) (wrap64 (rd F (i : Int) + 1)) (.int .i64 (wrap64 (rd F (i : Int) + 1))) 7 o HB fun vN wN hrN hbN hgN => ?_
           have HGn := HG.made_b13 hgN hrN;have HBn := Aside0.mk hbN
           refine hK.out _ _ (held18 HGn hiW) (fun hHeld => ?_)
           clear hK K
           refine norm_ (a' := ?_) ?_ ?_
           rotate_left
           ·show Act.put _ (some 81) _ = _
            simp only [Act.put, List.setIfInBounds_toArray, List.set_cons_zero, List.set_cons_succ, i64_w, i32_w]
            rfl
           exact nrm18 (hJ11_13_23 ⟨vN, v23⟩ _ ⟨⟨_, HGn⟩, HBn.out⟩)
          ·skip
           obtain ⟨Aq, cq, eq⟩ := Kd.R_slice HG.b23;subst eq;have hcv := Kd.C_string (c := cq) Tryz.underlying36 Tryz.underlying5 Tryz.underlying9 (Kd.R_reads' HG.b23).2.2
           refine value_ (w1 := ?_) (v := ?_) (by rfl) rfl ?_ ?_
           rotate_left 2
           ·go_simp
            rw [show Sem.run Tryz.prog (convert 36 9 (Value.slice Aq 1 cq)) wD = _ from hcv]
            rfl
           have HGn := HG;have HBn := HB
           refine hK.out _ _ (held18 HGn hiW) (fun hHeld => ?_)
           clear hK K
           refine norm_ (a' := ?_) ?_ ?_
           rotate_left
           ·show Act.put _ (some 92) _ = _
            simp only [Act.put, List.setIfInBounds_toArray, List.set_cons_zero, List.set_cons_succ, i64_w, i32_w]
            rfl
           refine pure_ (i := 25) (N := some 93) (v := ?_) (a' := ?_) (bA 67084263) rfl rfl (by kernel_rfl) (fun _ _ _ h => h) (Or.inl ⟨by rfl, ?_⟩) ?_ ?_
           rotate_left
           ·intro w'
            go_simp
            first | with_reducible rfl | rw [if_neg hct]
           rotate_left
           ·simp only [Act.put, List.setIfInBounds_toArray, List.set_cons_zero, List.set_cons_succ, i64_w, i32_w]
            rfl
           exact nrm18 (hJ11_23_24 (.slice Aq _ cq) _ ⟨⟨_, HGn⟩, HBn.out⟩)
         intro hJ11_23
         refine join_ (σ := Value) 14 (bA 67078119) (fun s_ => [(91, s_), (92, .string (strOfNums [d])), (93, .string (rdOf ByteArray.empty W (i : Int) ++ strOfNums [d]))]) (fun (s_ : Value) w' => (∃ o, RG w' w.heap.size gb gr gt1 w5.heap.size (T.length + 1) #[.slice At T.length ct, .slice (some adF) F.length cf, .slice An N.length cn, .slice (some adW) W.length cw] #[.int .i64 gw, .int .i64 gh, .slice A9 gc.length c9] (updS f u.data.toList (T.length : Int)) o (.slice At T.length ct) (T) (.slice (some adF) F.length cf) (F) (.slice (some adW) W.length cw) W (.slice An N.length cn) N (.slice Ax X.length cx) X (.slice none 0 0) [] (.slice none 0 0) [] (s_) [d] (.slice none 0 0) [] (.slice A9 gc.length c9) gc (.slice (some ad3) ([117, 114, 100, 108] : List Int).length c13) [117, 114, 100, 108]) ∧ Below w.heap.size w w') ?_ ?_
         ·skip
          rintro v23 wD ⟨⟨o, HG⟩, hB⟩
          have HB := Aside0.mk hB;clear hB;have hHeld := held18 HG hiW
          refine norm_ (a' := ?_) ?_ ?_
          rotate_left
          ·simp only [putAll, Act.put, List.setIfInBounds_toArray, List.set_cons_zero, List.set_cons_succ]
           rfl
          refine three_ (i := 3) (j := 11) (k := 26) (Ni := some 71) (Nj := some 79) (Nk := some 94) (bA 67078127) (bA 67080167) (bA 134186983) rfl rfl rfl rfl rfl rfl (by kernel_rfl) (by decide) (by decide) (by decide) (fun K hK => ?_) (fun K hK => ?_) (fun K hK => ?_)
          ·skip
           refine lit18 Kd.string 9 (N := 71) (u) (.string u) 6 o HB fun vN wN hrN hbN hgN => ?_
           have HGn := HG.made_b3 hgN hrN;have HBn := Aside0.mk hbN
           refine hK.out _ _ (held18 HGn hiW) (fun hHeld => ?_)
           clear hK K
           refine norm_ (a' := ?_) ?_ ?_
           rotate_left
           ·show Act.put _ (some 71) _ = _
            simp only [Act.put, List.setIfInBounds_toArray, List.set_cons_zero, List.set_cons_succ, i64_w, i32_w]
            rfl
           exact nrm18 (hJ3_23_24 ⟨vN, v23⟩ _ ⟨⟨_, HGn⟩, HBn.out⟩)
          ·skip
           have hx11 := far18 HG hiF
           refine value_ (w1 := ?_) (v := ?_) (by rfl) rfl ?_ ?_
           rotate_left 2
           ·go_simp
            constructor
            ·rfl
            ·rfl
           have HGn := HG;have HBn := HB
           refine hK.out _ _ (held18 HGn hiW) (fun hHeld => ?_)
           clear hK K
           refine norm_ (a' := ?_) ?_ ?_
           rotate_left
           ·show Act.put _ (some 79) _ = _
            simp only [Act.put, List.setIfInBounds_toArray, List.set_cons_zero, List.set_cons_succ, i64_w, i32_w]
            rfl
           refine pure_ (i := 12) (N := some 80) (v := ?_) (a' := ?_) (bA 67084263) rfl rfl (by kernel_rfl) (fun _ _ _ h => h) (Or.inl ⟨by rfl, ?_⟩) ?_ ?_
           rotate_left
           ·intro w'
            go_simp
            with_reducible rfl
           rotate_left
           ·simp only [Act.put, List.setIfInBounds_toArray, List.set_cons_zero, List.set_cons_succ, i64_w, i32_w]
            rfl
           exact nrm18 (hJ11_23_24 v23 _ ⟨⟨_, HGn⟩, HBn.out⟩)
          ·skip
           refine lit18 Kd.string 9 (N := 94) (rdOf ByteArray.empty W (i : Int) ++ strOfNums [d]) (.string (rdOf ByteArray.empty W (i : Int) ++ strOfNums [d])) 9 o HB fun vN wN hrN hbN hgN => ?_
           have HGn := HG.made_b26 hgN hrN;have HBn := Aside0.mk hbN
           refine hK.out _ _ (held18 HGn hiW) (fun hHeld => ?_)
           clear hK K
           refine norm_ (a' := ?_) ?_ ?_
           rotate_left
           ·show Act.put _ (some 94) _ = _
            simp only [Act.put, List.setIfInBounds_toArray, List.set_cons_zero, List.set_cons_succ, i64_w, i32_w]
            rfl
           exact nrm18 (hJ23_24_26 ⟨v23, vN⟩ _ ⟨⟨_, HGn⟩, HBn.out⟩)
         intro hJ23_24
         refine join_ (σ := Value) 16 (bA 8357871) (fun s_ => [(71, s_)]) (fun (s_ : Value) w' => (∃ o, RG w' w.heap.size gb gr gt1 w5.heap.size (T.length + 1) #[.slice At T.length ct, .slice (some adF) F.length cf, .slice An N.length cn, .slice (some adW) W.length cw] #[.int .i64 gw, .int .i64 gh, .slice A9 gc.length c9] (updS f u.data.toList (T.length : Int)) o (.slice At T.length ct) (T) (.slice (some adF) F.length cf) (F) (.slice (some adW) W.length cw) W (.slice An N.length cn) N (.slice Ax X.length cx) X (s_) [u] (.slice none 0 0) [] (.slice none 0 0) [] (.slice none 0 0) [] (.slice A9 gc.length c9) gc (.slice (some ad3) ([117, 114, 100, 108] : List Int).length c13) [117, 114, 100, 108]) ∧ Below w.heap.size w w') ?_ ?_
         ·skip
          rintro v3 wD ⟨⟨o, HG⟩, hB⟩
          have HB := Aside0.mk hB;clear hB;have hHeld := held18 HG hiW
          refine norm_ (a' := ?_) ?_ ?_
          rotate_left
          ·simp only [putAll, Act.put, List.setIfInBounds_toArray, List.set_cons_zero, List.set_cons_succ]
           rfl
          refine three_ (i := 4) (j := 11) (k := 23) (Ni := some 72) (Nj := some 79) (Nk := some 91) (bA 8357887) (bA 8359919) (bA 16746479) rfl rfl rfl rfl rfl rfl (by kernel_rfl) (by decide) (by decide) (by decide) (fun K hK => ?_) (fun K hK => ?_) (fun K hK => ?_)
          ·skip
           obtain ⟨Aq, cq, eq⟩ := Kd.R_slice HG.b3;subst eq
           refine app18 Kd.string (.tmp 69) (.tmp 71) 43 9 (.string ⟨#[]⟩) 16 (.slice At T.length ct) (T) (u) (Aq := Aq) (cq := cq) 1 o HB (rowg_at HG.t 1) (Kd.R_reads' HG.b3).2.2 Tryz.underlying43 info9 (by have := HTL.out; omega) fun vN wN hrN hbN hgN => ?_
           have HGn := HG.turn_t hgN hrN;have HBn := Aside0.mk hbN
           refine hK.out _ _ (held18 HGn hiW) (fun hHeld => ?_)
           clear hK K
           refine norm_ (a' := ?_) ?_ ?_
           rotate_left
           ·show Act.put _ (some 72) _ = _
            simp only [Act.put, List.setIfInBounds_toArray, List.set_cons_zero, List.set_cons_succ, i64_w, i32_w]
            rfl
           refine pure_ (i := 28) (N := some 96) (v := ?_) (a' := ?_) (bA 276793343) rfl rfl (by kernel_rfl) (fun _ _ _ h => h) (Or.inl ⟨by rfl, ?_⟩) ?_ ?_
           rotate_left
           ·intro w'
            go_simp
            with_reducible rfl
           rotate_left
           ·simp only [Act.put, List.setIfInBounds_toArray, List.set_cons_zero, List.set_cons_succ, i64_w, i32_w]
            rfl
           exact nrm18 (hJ3_4 ⟨(.slice Aq _ cq), vN⟩ _ ⟨⟨_, HGn⟩, HBn.out⟩)
          ·skip
           have hx11 := far18 HG hiF
           refine value_ (w1 := ?_) (v := ?_) (by rfl) rfl ?_ ?_
           rotate_left 2
           ·go_simp
            constructor
            ·rfl
            ·rfl
           have HGn := HG;have HBn := HB
           refine hK.out _ _ (held18 HGn hiW) (fun hHeld => ?_)
           clear hK K
           refine norm_ (a' := ?_) ?_ ?_
           rotate_left
           ·show Act.put _ (some 79) _ = _
            simp only [Act.put, List.setIfInBounds_toArray, List.set_cons_zero, List.set_cons_succ, i64_w, i32_w]
            rfl
           refine pure_ (i := 12) (N := some 80) (v := ?_) (a' := ?_) (bA 8364015) rfl rfl (by kernel_rfl) (fun _ _ _ h => h) (Or.inl ⟨by rfl, ?_⟩) ?_ ?_
           rotate_left
           ·intro w'
            go_simp
            with_reducible rfl
           rotate_left
           ·simp only [Act.put, List.setIfInBounds_toArray, List.set_cons_zero, List.set_cons_succ, i64_w, i32_w]
            rfl
           exact nrm18 (hJ3_11 v3 _ ⟨⟨_, HGn⟩, HBn.out⟩)
          ·skip
           refine lit18 (Kd.int .u8) 5 (N := 91) (d) (.int .u8 d) 8 o HB fun vN wN hrN hbN hgN => ?_
           have HGn := HG.made_b23 hgN hrN;have HBn := Aside0.mk hbN
           refine hK.out _ _ (held18 HGn hiW) (fun hHeld => ?_)
           clear hK K
           refine norm_ (a' := ?_) ?_ ?_
           rotate_left
           ·show Act.put _ (some 91) _ = _
            simp only [Act.put, List.setIfInBounds_toArray, List.set_cons_zero, List.set_cons_succ, i64_w, i32_w]
            rfl
           exact nrm18 (hJ3_23 ⟨v3, vN⟩ _ ⟨⟨_, HGn⟩, HBn.out⟩)
         intro hJ3
         refine join_ (σ := Unit) 15 (bA 8364007) (fun s_ => [(79, .int .i64 (rd F (i : Int))), (80, .int .i64 (wrap64 (rd F (i : Int) + 1)))]) (fun (s_ : Unit) w' => (∃ o, RG w' w.heap.size gb gr gt1 w5.heap.size (T.length + 1) #[.slice At T.length ct, .slice (some adF) F.length cf, .slice An N.length cn, .slice (some adW) W.length cw] #[.int .i64 gw, .int .i64 gh, .slice A9 gc.length c9] (updS f u.data.toList (T.length : Int)) o (.slice At T.length ct) (T) (.slice (some adF) F.length cf) (F) (.slice (some adW) W.length cw) W (.slice An N.length cn) N (.slice Ax X.length cx) X (.slice none 0 0) [] (.slice none 0 0) [] (.slice none 0 0) [] (.slice none 0 0) [] (.slice A9 gc.length c9) gc (.slice (some ad3) ([117, 114, 100, 108] : List Int).length c13) [117, 114, 100, 108]) ∧ Below w.heap.size w w') ?_ ?_
         ·skip
          rintro _ wD ⟨⟨o, HG⟩, hB⟩
          have HB := Aside0.mk hB;clear hB;have hHeld := held18 HG hiW
          refine norm_ (a' := ?_) ?_ ?_
          rotate_left
          ·simp only [putAll, Act.put, List.setIfInBounds_toArray, List.set_cons_zero, List.set_cons_succ]
           rfl
          refine three_ (i := 3) (j := 13) (k := 23) (Ni := some 71) (Nj := some 81) (Nk := some 91) (bA 8364015) (bA 8372199) (bA 16752615) rfl rfl rfl rfl rfl rfl (by kernel_rfl) (by decide) (by decide) (by decide) (fun K hK => ?_) (fun K hK => ?_) (fun K hK => ?_)
          ·skip
           refine lit18 Kd.string 9 (N := 71) (u) (.string u) 6 o HB fun vN wN hrN hbN hgN => ?_
           have HGn := HG.made_b3 hgN hrN;have HBn := Aside0.mk hbN
           refine hK.out _ _ (held18 HGn hiW) (fun hHeld => ?_)
           clear hK K
           refine norm_ (a' := ?_) ?_ ?_
           rotate_left
           ·show Act.put _ (some 71) _ = _
            simp only [Act.put, List.setIfInBounds_toArray, List.set_cons_zero, List.set_cons_succ, i64_w, i32_w]
            rfl
           exact nrm18 (hJ3_11 vN _ ⟨⟨_, HGn⟩, HBn.out⟩)
          ·skip
           refine lit18 (Kd.int .i64) 3 (N := 81) (wrap64 (rd F (i : Int) + 1)) (.int .i64 (wrap64 (rd F (i : Int) + 1))) 7 o HB fun vN wN hrN hbN hgN => ?_
           have HGn := HG.made_b13 hgN hrN;have HBn := Aside0.mk hbN
           refine hK.out _ _ (held18 HGn hiW) (fun hHeld => ?_)
           clear hK K
           refine norm_ (a' := ?_) ?_ ?_
           rotate_left
           ·show Act.put _ (some 81) _ = _
            simp only [Act.put, List.setIfInBounds_toArray, List.set_cons_zero, List.set_cons_succ, i64_w, i32_w]
            rfl
           exact nrm18 (hJ11_13 vN _ ⟨⟨_, HGn⟩, HBn.out⟩)
          ·skip
           refine lit18 (Kd.int .u8) 5 (N := 91) (d) (.int .u8 d) 8 o HB fun vN wN hrN hbN hgN => ?_
           have HGn := HG.made_b23 hgN hrN;have HBn := Aside0.mk hbN
           refine hK.out _ _ (held18 HGn hiW) (fun hHeld => ?_)
           clear hK K
           refine norm_ (a' := ?_) ?_ ?_
           rotate_left
           ·show Act.put _ (some 91) _ = _
            simp only [Act.put, List.setIfInBounds_toArray, List.set_cons_zero, List.set_cons_succ, i64_w, i32_w]
            rfl
           exact nrm18 (hJ11_23 vN _ ⟨⟨_, HGn⟩, HBn.out⟩)
         intro hJ11
         refine join_ (σ := Value) 16 (bA 16746471) (fun s_ => [(91, s_)]) (fun (s_ : Value) w' => (∃ o, RG w' w.heap.size gb gr gt1 w5.heap.size (T.length + 1) #[.slice At T.length ct, .slice (some adF) F.length cf, .slice An N.length cn, .slice (some adW) W.length cw] #[.int .i64 gw, .int .i64 gh, .slice A9 gc.length c9] (updS f u.data.toList (T.length : Int)) o (.slice At T.length ct) (T) (.slice (some adF) F.length cf) (F) (.slice (some adW) W.length cw) W (.slice An N.length cn) N (.slice Ax X.length cx) X (.slice none 0 0) [] (.slice none 0 0) [] (s_) [d] (.slice none 0 0) [] (.slice A9 gc.length c9) gc (.slice (some ad3) ([117, 114, 100, 108] : List Int).length c13) [117, 114, 100, 108]) ∧ Below w.heap.size w w') ?_ ?_
         ·skip
          rintro v23 wD ⟨⟨o, HG⟩, hB⟩
          have HB := Aside0.mk hB;clear hB;have hHeld := held18 HG hiW
          refine norm_ (a' := ?_) ?_ ?_
          rotate_left
          ·simp only [putAll, Act.put, List.setIfInBounds_toArray, List.set_cons_zero, List.set_cons_succ]
           rfl
          refine three_ (i := 3) (j := 11) (k := 24) (Ni := some 71) (Nj := some 79) (Nk := some 92) (bA 16746479) (bA 16748519) (bA 33523687) rfl rfl rfl rfl rfl rfl (by kernel_rfl) (by decide) (by decide) (by decide) (fun K hK => ?_) (fun K hK => ?_) (fun K hK => ?_)
          ·skip
           refine lit18 Kd.string 9 (N := 71) (u) (.string u) 6 o HB fun vN wN hrN hbN hgN => ?_
           have HGn := HG.made_b3 hgN hrN;have HBn := Aside0.mk hbN
           refine hK.out _ _ (held18 HGn hiW) (fun hHeld => ?_)
           clear hK K
           refine norm_ (a' := ?_) ?_ ?_
           rotate_left
           ·show Act.put _ (some 71) _ = _
            simp only [Act.put, List.setIfInBounds_toArray, List.set_cons_zero, List.set_cons_succ, i64_w, i32_w]
            rfl
           exact nrm18 (hJ3_23 ⟨vN, v23⟩ _ ⟨⟨_, HGn⟩, HBn.out⟩)
          ·skip
           have hx11 := far18 HG hiF
           refine value_ (w1 := ?_) (v := ?_) (by rfl) rfl ?_ ?_
           rotate_left 2
           ·go_simp
            constructor
            ·rfl
            ·rfl
           have HGn := HG;have HBn := HB
           refine hK.out _ _ (held18 HGn hiW) (fun hHeld => ?_)
           clear hK K
           refine norm_ (a' := ?_) ?_ ?_
           rotate_left
           ·show Act.put _ (some 79) _ = _
            simp only [Act.put, List.setIfInBounds_toArray, List.set_cons_zero, List.set_cons_succ, i64_w, i32_w]
            rfl
           refine pure_ (i := 12) (N := some 80) (v := ?_) (a' := ?_) (bA 16752615) rfl rfl (by kernel_rfl) (fun _ _ _ h => h) (Or.inl ⟨by rfl, ?_⟩) ?_ ?_
           rotate_left
           ·intro w'
            go_simp
            with_reducible rfl
           rotate_left
           ·simp only [Act.put, List.setIfInBounds_toArray, List.set_cons_zero, List.set_cons_succ, i64_w, i32_w]
            rfl
           exact nrm18 (hJ11_23 v23 _ ⟨⟨_, HGn⟩, HBn.out⟩)
          ·skip
           obtain ⟨Aq, cq, eq⟩ := Kd.R_slice HG.b23;subst eq;have hcv := Kd.C_string (c := cq) Tryz.underlying36 Tryz.underlying5 Tryz.underlying9 (Kd.R_reads' HG.b23).2.2
           refine value_ (w1 := ?_) (v := ?_) (by rfl) rfl ?_ ?_
           rotate_left 2
           ·go_simp
            rw [show Sem.run Tryz.prog (convert 36 9 (Value.slice Aq 1 cq)) wD = _ from hcv]
            rfl
           have HGn := HG;have HBn := HB
           refine hK.out _ _ (held18 HGn hiW) (fun hHeld => ?_)
           clear hK K
           refine norm_ (a' := ?_) ?_ ?_
           rotate_left
           ·show Act.put _ (some 92) _ = _
            simp only [Act.put, List.setIfInBounds_toArray, List.set_cons_zero, List.set_cons_succ, i64_w, i32_w]
            rfl
           refine pure_ (i := 25) (N := some 93) (v := ?_) (a' := ?_) (bA 67078119) rfl rfl (by kernel_rfl) (fun _ _ _ h => h) (Or.inl ⟨by rfl, ?_⟩) ?_ ?_
           rotate_left
           ·intro w'
            go_simp
            first | with_reducible rfl | rw [if_neg hct]
           rotate_left
           ·simp only [Act.put, List.setIfInBounds_toArray, List.set_cons_zero, List.set_cons_succ, i64_w, i32_w]
            rfl
           exact nrm18 (hJ23_24 (.slice Aq _ cq) _ ⟨⟨_, HGn⟩, HBn.out⟩)
         intro hJ23;have HGd := HG.below (below_drew (Below.refl _ w17)) 0;have HBd := Aside0.mk (below_then HB.out HB.out.size (below_drew (Below.refl _ w17)));generalize upo o w17.heap.size 0 = o at HGd
         revert hHeld HGd HBd
         generalize w17.drew = wD;intro hHeld HB HG
         refine three_ (i := 3) (j := 11) (k := 23) (Ni := some 71) (Nj := some 79) (Nk := some 91) (bA 8357871) (bA 8359911) (bA 16746471) rfl rfl rfl rfl rfl rfl (by kernel_rfl) (by decide) (by decide) (by decide) (fun K hK => ?_) (fun K hK => ?_) (fun K hK => ?_)
         ·skip
          refine lit18 Kd.string 9 (N := 71) (u) (.string u) 6 o HB fun vN wN hrN hbN hgN => ?_
          have HGn := HG.made_b3 hgN hrN;have HBn := Aside0.mk hbN
          refine hK.out _ _ (held18 HGn hiW) (fun hHeld => ?_)
          clear hK K
          refine norm_ (a' := ?_) ?_ ?_
          rotate_left
          ·show Act.put _ (some 71) _ = _
           simp only [Act.put, List.setIfInBounds_toArray, List.set_cons_zero, List.set_cons_succ, i64_w, i32_w]
           rfl
          exact nrm18 (hJ3 vN _ ⟨⟨_, HGn⟩, HBn.out⟩)
         ·skip
          have hx11 := far18 HG hiF
          refine value_ (w1 := ?_) (v := ?_) (by rfl) rfl ?_ ?_
          rotate_left 2
          ·go_simp
           constructor
           ·rfl
           ·rfl
          have HGn := HG;have HBn := HB
          refine hK.out _ _ (held18 HGn hiW) (fun hHeld => ?_)
          clear hK K
          refine norm_ (a' := ?_) ?_ ?_
          rotate_left
          ·show Act.put _ (some 79) _ = _
           simp only [Act.put, List.setIfInBounds_toArray, List.set_cons_zero, List.set_cons_succ, i64_w, i32_w]
           rfl
          refine pure_ (i := 12) (N := some 80) (v := ?_) (a' := ?_) (bA 8364007) rfl rfl (by kernel_rfl) (fun _ _ _ h => h) (Or.inl ⟨by rfl, ?_⟩) ?_ ?_
          rotate_left
          ·intro w'
           go_simp
           with_reducible rfl
          rotate_left
          ·simp only [Act.put, List.setIfInBounds_toArray, List.set_cons_zero, List.set_cons_succ, i64_w, i32_w]
           rfl
          exact nrm18 (hJ11 () _ ⟨⟨_, HGn⟩, HBn.out⟩)
         ·skip
          refine lit18 (Kd.int .u8) 5 (N := 91) (d) (.int .u8 d) 8 o HB fun vN wN hrN hbN hgN => ?_
          have HGn := HG.made_b23 hgN hrN;have HBn := Aside0.mk hbN
          refine hK.out _ _ (held18 HGn hiW) (fun hHeld => ?_)
          clear hK K
          refine norm_ (a' := ?_) ?_ ?_
          rotate_left
          ·show Act.put _ (some 91) _ = _
           simp only [Act.put, List.setIfInBounds_toArray, List.set_cons_zero, List.set_cons_succ, i64_w, i32_w]
           rfl
          exact nrm18 (hJ23 vN _ ⟨⟨_, HGn⟩, HBn.out⟩)
        rintro ⟨v3, vt1, v13, vf1, v23, v26⟩ wD ⟨⟨o, HG⟩, hB⟩
        obtain ⟨At1, ct1, et⟩ := Kd.R_slice (show Kd.R Kd.string 9 wD w.heap.size (fun k_ => o k_ = 1) vt1 (T ++ [u]) from HG.t);subst et;obtain ⟨Af1, cf1, ef⟩ := Kd.R_slice (show Kd.R (Kd.int .i64) 3 wD w.heap.size (fun k_ => o k_ = 2) vf1 (F ++ [wrap64 (rd F (i : Int) + 1)]) from HG.fa);subst ef;have HB := Aside0.mk hB;clear hB;have hHeld := held18 HG hiW
        refine norm_ (a' := ?_) ?_ ?_
        rotate_left
        ·simp only [putAll, Act.put, List.setIfInBounds_toArray, List.set_cons_zero, List.set_cons_succ]
         rfl
        refine last_ (i := 27) (N := some 95) (bA 536870911) rfl rfl (by kernel_rfl) (by decide) (fun K hK => ?_)
        obtain ⟨Aq, cq, eq⟩ := Kd.R_slice HG.b26;subst eq
        refine app18 Kd.string (.tmp 84) (.tmp 94) 43 9 (.string ⟨#[]⟩) 16 (.slice (some adW) W.length cw) (W) (rdOf ByteArray.empty W (i : Int) ++ strOfNums [d]) (Aq := Aq) (cq := cq) 3 o HB (rowg_at HG.wd 3) (Kd.R_reads' HG.b26).2.2 Tryz.underlying43 info9 (by have := HTL.out; omega) fun vN wN hrN hbN hgN => ?_
        obtain ⟨Aw1, cw1, ew⟩ := Kd.R_slice hrN;subst ew;have HGn := HG.turn_wd hgN hrN;have HBn := Aside0.mk hbN;have y0 := (blk_cell HGn.blk 0).trans rfl;have y1 := (blk_cell HGn.blk 1).trans rfl;have y3 := (blk_cell HGn.blk 3).trans rfl;have f0 := blk_frozen HGn.blk 0;have f1 := blk_frozen HGn.blk 1;have f3 := blk_frozen HGn.blk 3
        refine hK.out _ _ ?_
        clear hK K
        refine norm_ (a' := ?_) ?_ ?_
        rotate_left
        ·show Act.put _ (some 95) _ = _
         simp only [Act.put, List.setIfInBounds_toArray, List.set_cons_zero, List.set_cons_succ, i64_w, i32_w]
         rfl
        refine last_ (i := 29) (N := none) (bA 1073741823) rfl rfl (by kernel_rfl) (by decide) (fun K hK => ?_)
        refine skip_ (w1 := ?_) (by rfl) rfl ?_ ?_
        rotate_left
        ·go_simp
         rfl
        refine hK.out _ _ ?_
        clear hK K
        refine pure_ (i := 30) (N := some 97) (v := ?_) (a' := ?_) (bA 2147483647) rfl rfl (by kernel_rfl) (fun _ _ _ h => h) (Or.inl ⟨by rfl, ?_⟩) ?_ ?_
        rotate_left
        ·intro w'
         go_simp
         with_reducible rfl
        rotate_left
        ·simp only [Act.put, List.setIfInBounds_toArray, List.set_cons_zero, List.set_cons_succ, i64_w, i32_w]
         rfl
        refine last_ (i := 31) (N := none) (bA 4294967295) rfl rfl (by kernel_rfl) (by decide) (fun K hK => ?_)
        refine skip_ (w1 := ?_) (by rfl) rfl ?_ ?_
        rotate_left
        ·go_simp
         rfl
        refine hK.out _ _ ?_
        clear hK K
        refine pure_ (i := 32) (N := some 98) (v := ?_) (a' := ?_) (bA 8589934591) rfl rfl (by kernel_rfl) (fun _ _ _ h => h) (Or.inl ⟨by rfl, ?_⟩) ?_ ?_
        rotate_left
        ·intro w'
         go_simp
         with_reducible rfl
        rotate_left
        ·simp only [Act.put, List.setIfInBounds_toArray, List.set_cons_zero, List.set_cons_succ, i64_w, i32_w]
         rfl
        refine last_ (i := 33) (N := none) (bA 17179869183) rfl rfl (by kernel_rfl) (by decide) (fun K hK => ?_)
        refine skip_ (w1 := ?_) (by rfl) rfl ?_ ?_
        rotate_left
        ·go_simp
         rfl
        refine hK.out _ _ ?_
        clear hK K
        refine done_ (by kernel_rfl) ?_
        have eT : (T ++ [u]).length = T.length + 1 := by simp
        have eF : (F ++ [wrap64 (rd F (i : Int) + 1)]).length = F.length + 1 := by simp
        have eW : (W ++ [rdOf ByteArray.empty W (i : Int) ++ strOfNums [d]]).length = W.length + 1 := by simp
        obtain ⟨w20, hw⟩ : ∃ w20, w20 = ((wN.setCell ⟨gr, 0, none⟩ (.slice At1 (T.length + 1) ct1)).setCell ⟨gr, 1, none⟩ (.slice Af1 (F.length + 1) cf1)).setCell ⟨gr, 3, none⟩ (.slice Aw1 (W.length + 1) cw1) := ⟨_, rfl⟩
        rw [← hw]
        rw [← eT, ← eF, ← eW] at hw
        have HB20 := Aside0.mk (show Below w.heap.size w w20 by rw [hw]; exact below_set (below_set (below_set HBn.out HNE.out.2.2.1) HNE.out.2.2.1) HNE.out.2.2.1)
        obtain ⟨o20, hR20⟩ : ∃ o20, RG w20 w.heap.size gb gr gt1 w5.heap.size (T ++ [u]).length #[.slice At1 (T ++ [u]).length ct1, .slice Af1 (F ++ [wrap64 (rd F (i : Int) + 1)]).length cf1, .slice An N.length cn, .slice Aw1 (W ++ [rdOf ByteArray.empty W (i : Int) ++ strOfNums [d]]).length cw1] #[.int .i64 gw, .int .i64 gh, .slice A9 gc.length c9] (updS f u.data.toList (T.length : Int)) o20 (.slice At1 (T ++ [u]).length ct1) (T ++ [u]) (.slice Af1 (F ++ [wrap64 (rd F (i : Int) + 1)]).length cf1) (F ++ [wrap64 (rd F (i : Int) + 1)]) (.slice Aw1 (W ++ [rdOf ByteArray.empty W (i : Int) ++ strOfNums [d]]).length cw1) (W ++ [rdOf ByteArray.empty W (i : Int) ++ strOfNums [d]]) (.slice An N.length cn) N (.slice Ax X.length cx) X (.slice none 0 0) [] (.slice none 0 0) [] (.slice none 0 0) [] (.slice none 0 0) [] (.slice A9 gc.length c9) gc (.slice (some ad3) ([117, 114, 100, 108] : List Int).length c13) [117, 114, 100, 108] := ⟨_, by
         have h := (((HGn.cell 0 (.slice At1 (T ++ [u]).length ct1) rfl).cell 1 (.slice Af1 (F ++ [wrap64 (rd F (i : Int) + 1)]).length cf1) rfl).cell 3 (.slice Aw1 (W ++ [rdOf ByteArray.empty W (i : Int) ++ strOfNums [d]]).length cw1) rfl).bare
         rw [← hw, ← eT] at h
         exact h⟩
        have HR20 := Aside0.mk hR20;clear hR20 hw HGn HBn HG HB hHeld y0 y1 y3 f0 f1 f3 hrN hbN hgN
        go_wp2_with (first
         | ((with_reducible refine gate_dst (N := 102) rfl ?_); refine Kd.R_append (Kd.int .i64) (w0 := w) w.heap.size rfl (.tmp 99) (.tmp 101) 39 3 (.int .i64 0) 8 rfl Tryz.underlying39 info3 rfl (by decide) (by omega) (.slice Ax X.length cx) X (T.length : Int) [.int .i64 (T.length : Int)] (fun k_ => upo o20 w20.heap.size 5 k_ = 5) (fun _ => False) rfl rfl ?aP (fun _ hk => hk.elim) ?aF ?aO ?aB ?aS ?aL ?_; (case aP => exact rfl); (case aB => exact HB20.out); (case aF => exact (fun _ hk => upo_new hk)); (case aO => exact rowg_at HR20.out.x 5); (case aS => exact HB20.out.size); (case aL => have h1 := HI.out; omega); intro v16 w16 ho16 hb16 hg16 _; obtain ⟨A16, c16, rfl⟩ := Kd.R_slice ho16; (have HR16 := Aside0.mk (HR20.out.turn_x hg16 ho16)); (have HB16 := Aside0.mk hb16); clear ho16 hb16 hg16 HB20 HR20))
        go_roundg (4 - (dd + 1))
        case measure => have := HI.out; have := HDL.out; omega
        case rel => exact ⟨dd + 1, T ++ [u], (F ++ [wrap64 (rd F (i : Int) + 1)]), (W ++ [rdOf ByteArray.empty W (i : Int) ++ strOfNums [d]]), _, X ++ [(T.length : Int)], At1, Af1, Aw1, A16, ct1, cf1, cw1, c16, by first | rfl | simp, by first | rfl | rw [wrap64_nat dd (by have := HDL.out; omega)] | simp, ⟨⟨by have := HDL.out; omega, Nat.le_refl _⟩, by rw [eT]; have := HI.out; omega, by rw [eT, eF]; have := HI.out; omega, by rw [eT, eW]; have := HI.out; omega, by rw [eT]; have := HI.out; omega, by rw [List.length_append, List.length_singleton, HI.out.2.2.2.2.2]⟩, HNX, ⟨_, HR16.out⟩, HB16⟩
     ·obtain rfl : dd = 4 := by have := HI.out; omega
      have e1 : decide (((4 : Nat) : Int) < 4) = false := by decide
      have HNX := Aside0.mk (show reO k (300 - i) (i + 1) T F (N ++ [X]) W f = some (r1, r2, r3, r4, r5) from H.out);obtain ⟨o, hg⟩ := HRG.out;have HRO := Aside0.mk hg;have z2 := (blk_cell hg.blk 2).trans rfl;clear hg HRG H hdl
      go_wp2_with (first
       | ((with_reducible refine gate_dst (N := 108) rfl ?_); refine Kd.S_append (Kd.slice 3 (Kd.int .i64)) (w0 := w) w.heap.size rfl (.tmp 105) (.tmp 107) 44 39 (.slice none 0 0) 24 rfl Tryz.underlying44 (by kernel_rfl) rfl (by decide) (by omega) (.slice An N.length cn) N X [.slice Ax X.length cx] (fun k_ => upo (fun q_ => if o q_ = 5 then 4 else o q_) wr.heap.size 4 k_ = 4) (fun k_ => o k_ = 5 ∧ k_ < wr.heap.size) rfl rfl ?aP ?aK ?aF ?aO ?aB ?aS ?aL ?_; (case aP => exact ⟨_, rfl, Kd.R_mono (Kd.R_bound HRO.out.x) fun k_ hk => ⟨hk.1, hk.2.2.1⟩⟩); (case aK => exact fun k_ hk => ⟨(upo_old hk.2).trans (if_pos hk.1), fun e => by have h1 := rowg_mine (Kd.S_R HRO.out.nx) k_ e.symm; have h2 := hk.1; omega⟩); (case aB => exact HB.out); (case aF => exact (fun _ hk => upo_new hk)); (case aO => exact Kd.S_mono (Kd.S_bound HRO.out.nx) fun k_ hk => ⟨(upo_old hk.2.2.1).trans ((if_neg (by have := hk.1; omega)).trans hk.1), fun h2 => by have h1 := hk.1; have h3 := h2.1; omega⟩); (case aS => exact HB.out.size); (case aL => have h1 := HIN0.out; omega); intro v22 w22 ho22 hb22 hg22 _; obtain ⟨A22, c22, rfl⟩ := Kd.S_slice ho22; (have HR22 := Aside0.mk ((HRO.out.give).turn_nx hg22 ho22)); (have HB22 := Aside0.mk hb22); clear ho22 hb22 hg22 HB HRO z2; (have z2 := (blk_cell HR22.out.blk 2).trans rfl); (have f2 := blk_frozen HR22.out.blk 2)))
      have eN : (N ++ [X]).length = N.length + 1 := by simp
      obtain ⟨w23, hw⟩ : ∃ w23, w23 = w22.setCell ⟨gr, 2, none⟩ (.slice A22 (N.length + 1) c22) := ⟨_, rfl⟩
      rw [← hw]
      rw [← eN] at hw
      have HB23 := Aside0.mk (show Below w.heap.size w w23 by rw [hw]; exact below_set HB22.out HNE.out.2.2.1)
      have HR23 := Aside0.mk (show ∃ o, RG w23 w.heap.size gb gr gt1 w5.heap.size T.length #[.slice At T.length ct, .slice Af F.length cf, .slice A22 (N ++ [X]).length c22, .slice Aw W.length cw] #[.int .i64 gw, .int .i64 gh, .slice A9 gc.length c9] f o (.slice At T.length ct) T (.slice Af F.length cf) F (.slice Aw W.length cw) W (.slice A22 (N ++ [X]).length c22) (N ++ [X]) (.slice none 0 0) [] (.slice none 0 0) [] (.slice none 0 0) [] (.slice none 0 0) [] (.slice none 0 0) [] (.slice none 0 0) [] (.slice none 0 0) [] from ⟨_, by
       have h := (HR22.out.cell 2 (.slice A22 (N ++ [X]).length c22) rfl).rest
       rw [← hw] at h
       exact h⟩)
      clear hw HR22 HB22 z2 f2
      go_roundg (301 - (i + 1))
      case measure => have := HIN0.out; omega
      case rel => exact ⟨i + 1, T, F, N ++ [X], W, f, At, Af, Aw, A22, ct, cf, cw, c22, gt1, _, by first | rfl | rw [wrap64_nat i (by have := HIN0.out; omega)] | simp, ⟨Nat.le_refl _, HI.out.2.1, HI.out.2.2.1, HI.out.2.2.2.1, by rw [eN, HIN0.out.1], by have := HI.out; omega⟩, by rw [show 301 - (i + 1) = 300 - i by omega]; exact HNX, HR23, HB23⟩
   ·obtain rfl : i = T.length := by have := HI.out; omega
    have e1 : decide ((T.length : Int) < (T.length : Int)) = false := decide_eq_false (by omega);have e2 : decide (T.length < T.length) = false := decide_eq_false (by omega);have hsp := H.out
    rw [show 301 - T.length = (300 - T.length) + 1 by have := HI.out; omega] at hsp
    unfold reO at hsp
    rw [if_neg (by omega)] at hsp
    simp only [Option.some.injEq, Prod.mk.injEq] at hsp
    obtain ⟨rfl, rfl, rfl, rfl, rfl⟩ := hsp;obtain ⟨o, hg⟩ := HRG.out;have HRO := Aside0.mk hg;have z0 := (blk_cell hg.blk 0).trans rfl;have z1 := (blk_cell hg.blk 1).trans rfl;have z2 := (blk_cell hg.blk 2).trans rfl;have z3 := (blk_cell hg.blk 3).trans rfl;have g0 := (blk_cell hg.rbk 0).trans rfl;have g1 := (blk_cell hg.rbk 1).trans rfl;have g2 := (blk_cell hg.rbk 2).trans rfl;have g3 := (blk_cell hg.rbk 3).trans rfl;have f0 := blk_frozen hg.rbk 0;have f1 := blk_frozen hg.rbk 1;have f2 := blk_frozen hg.rbk 2;have f3 := blk_frozen hg.rbk 3;clear hg HRG H hli
    go_wp2
    refine bodyPost_ret (results_ct rfl _ _ gb 46 #[.slice At T.length ct, .slice Af F.length cf, .slice An N.length cn, .slice Aw W.length cw] (0, 0) _ rfl (by refine blk_put (cs := #[.slice At T.length ct, .slice Af F.length cf, .slice An N.length cn, .slice none 0 0]) ?_ 3 _ rfl; refine blk_put (cs := #[.slice At T.length ct, .slice Af F.length cf, .slice none 0 0, .slice none 0 0]) ?_ 2 _ rfl; refine blk_put (cs := #[.slice At T.length ct, .slice none 0 0, .slice none 0 0, .slice none 0 0]) ?_ 1 _ rfl; refine blk_put (cs := #[.slice none 0 0, .slice none 0 0, .slice none 0 0, .slice none 0 0]) ?_ 0 _ rfl; exact HRO.out.rbk) Tryz.underlying46 rfl (by kernel_rfl)) rfl ?_
    exact ⟨_, _, _, _, rfl, Kd.R_mono (R_four HRO.out.t HRO.out.rbk (by decide) _ _ _ _) (fun k_ hk e => by have h1 := rowg_mine HRO.out.wd k_ e.symm; omega), Kd.R_mono (R_four HRO.out.fa HRO.out.rbk (by decide) _ _ _ _) (fun _ _ => trivial), Kd.S_mono (S_four HRO.out.nx HRO.out.rbk (by decide) _ _ _ _) (fun k_ hk e => by have h1 := rowg_mine HRO.out.fa k_ e.symm; omega), Kd.R_mono (R_four HRO.out.wd HRO.out.rbk (by decide) _ _ _ _) (fun k_ hk e => by have h1 := rowg_mine HRO.out.t k_ e.symm; omega), below_set (below_set (below_set (below_set HB.out HGE.out) HGE.out) HGE.out) HGE.out⟩
end Go.Proofs.YtchjgphnglklcaaGreatDoor.Q
end
