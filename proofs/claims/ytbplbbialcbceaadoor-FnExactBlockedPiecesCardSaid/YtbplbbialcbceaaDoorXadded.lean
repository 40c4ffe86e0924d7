/- impl.added: with which directions a cell can be added (its closure captures the tray). -/
import Derived.Test.YtbplbbialcbceaaDoorXfunc
import Derived.Test.YtbplbbialcbceaaDoorQd
import Derived.Test.YtbplbbialcbceaaDoorQh
import Derived.RangeFuncBox
namespace Go.Proofs.YtbplbbialcbceaaDoor.Q
open Go.RowKit Go.Proofs.YtbplbbialcbceaaDoorW.PrintWords Go.Proofs.YtbplbbialcbceaaDoorW.PrintLast Go.Proofs.YtbplbbialcbceaaDoorW.PrintMore
def ballB (l : List Int) (j : Int) : Bool := decide (rd l j = 111 ∨ (97 ≤ rd l j ∧ rd l j ≤ 102))
def inB (l nb : List Int) : Bool := decide (nb.length ≤ 1000000) && nb.all fun j => decide (0 ≤ j ∧ j < (l.length : Int))
def impl_tray_added.f (k : Nat) (w h : Int) (l : List Int) (a : Int) : Option ByteArray :=
  if 0 ≤ a ∧ a < (l.length : Int) then (if rd l a = 46 then ((impl_tray_beside.f k w h l a).bind fun nb => (if inB l nb = true then (if nb.any (ballB l) = true then impl_tray_freeWays.f k w h l a else some ⟨#[]⟩) else none)) else some ⟨#[]⟩) else none
theorem impl_tray_added.mono : ∀ w h l a k, LeO (impl_tray_added.f k w h l a) (impl_tray_added.f (k + 1) w h l a) := by
  intro w h l a k
  unfold impl_tray_added.f
  refine LeO.ite (LeO.ite (LeO.bind (impl_tray_beside.mono _ _ _ _ _) fun nb => LeO.ite (LeO.ite (impl_tray_freeWays.mono _ _ _ _ _) (LeO.refl _)) (LeO.refl _)) (LeO.refl _)) (LeO.refl _)
theorem isBall_val (l : List Int) (j : Int) : impl_isBall.f (rd l j) = some (ballB l j) := by
  unfold impl_isBall.f impl_isName.f ballB
  by_cases h1 : rd l j = 111
  · rw [if_pos h1, decide_eq_true (Or.inl h1)]
  · rw [if_neg h1]
    by_cases h2 : rd l j ≥ 97
    · rw [if_pos h2, Option.bind_some]
      congr 1
      exact decide_eq_decide.2 (by omega)
    · rw [if_neg h2, Option.bind_some, decide_eq_false (by omega)]
/-- The tray's box, as the closure reads it. -/
structure Bx (W : World) (g : Nat) (a b : Int) (A : Option Addr) (c : Nat) (l : List Int) : Prop where
  c0 : W.cell? ⟨g, 0, none⟩ = some (.int .i64 a)
  c1 : W.cell? ⟨g, 1, none⟩ = some (.int .i64 b)
  c2 : W.cell? ⟨g, 2, none⟩ = some (.slice A l.length c)
  lt : g < W.heap.size
  reads : Kd.C (Kd.int .u8) W A l.length l
theorem Bx.below {W W' : World} {g : Nat} {a b : Int} {A : Option Addr} {c : Nat} {l : List Int} (h : Bx W g a b A c l) (hb : Below W.heap.size W W') : Bx W' g a b A c l :=
  ⟨(hb.cell (p := ⟨g, 0, none⟩) h.lt).trans h.c0, (hb.cell (p := ⟨g, 1, none⟩) h.lt).trans h.c1, (hb.cell (p := ⟨g, 2, none⟩) h.lt).trans h.c2, Nat.lt_of_lt_of_le h.lt hb.size, Kd.C_below h.reads hb⟩
set_option maxHeartbeats 4000000 in
set_option maxRecDepth 100000 in
theorem added_pred (g : Nat) (a b : Int) (A : Option Addr) (c : Nat) (l zs : List Int) (w : World) (hz : ∀ j ∈ zs, 0 ≤ j ∧ j < (l.length : Int)) (hx : Bx w g a b A c l) :
    PredI 83 #[.pointer (some ⟨g, 0, none⟩)] (ballB l) zs w := by
  intro W hb x hxz
  obtain ⟨h0, h1⟩ := hz x hxz
  have hB := hx.below hb
  obtain ⟨k0, k1, k2, klt, kr⟩ := hB
  obtain ⟨ad, e1, hcell⟩ := Kd.at_int kr x h0 h1
  cases e1
  have hc := fun W => impl_isBall.calls (rd l x) _ W (isBall_val l x)
  have p1 : (0 ≤ x) = True := eq_true h0
  have p2 : (x < (l.length : Int)) = True := eq_true h1
  generalize ballB l x = bb at hc ⊢
  clear hz hx hb hxz h0 h1 kr klt k0 k1
  show Calls Tryd.prog 83 #[.int .i64 x, .pointer (some ⟨g, 0, none⟩)] W _
  have hu := Tryd.underlying45
  go_enter Tryd.func83, Tryd.ntmps83
  go_wp2_with fail
  refine (hc _).mono ?_
  rintro e w' ⟨rfl, ⟨nd, rfl⟩⟩
  go_wp2
  go_ret
  exact ⟨rfl, pw_below_drewN (Below.refl _ _) _⟩
set_option maxHeartbeats 8000000 in
set_option maxRecDepth 100000 in
theorem impl_tray_added.calls (k : Nat) (a0_0 a0_1 : Int) (A0_2 : Option Addr) (c0_2 : Nat) (l0_2 : List Int) (a1 : Int) (r : ByteArray) (w : World) (hr0_2 : Kd.C (Kd.int .u8) w A0_2 l0_2.length l0_2) (hc0_2 : l0_2.length ≤ c0_2) (h : impl_tray_added.f k a0_0 a0_1 l0_2 a1 = some r) :
    Calls Tryd.prog 51 #[.agg #[.int .i64 a0_0, .int .i64 a0_1, .slice A0_2 l0_2.length c0_2], .int .i64 a1] w fun e w' => e = .returned (.string r) ∧ Below w.heap.size w w' := by
  unfold impl_tray_added.f at h
  split at h
  case isFalse => cases h
  rename_i hin
  have hu := Tryd.underlying45
  have HIN := Aside0.mk hin
  have HR := Aside0.mk hr0_2
  have HC := Aside0.mk hc0_2
  obtain ⟨ad, e1, _⟩ := Kd.at_int hr0_2 a1 hin.1 hin.2
  cases e1
  have p1 : (0 ≤ a1) = True := eq_true hin.1
  have p2 : (a1 < (l0_2.length : Int)) = True := eq_true hin.2
  clear hr0_2 hin hc0_2
  by_cases h46 : rd l0_2 a1 = 46
  · rw [if_pos h46] at h
    obtain ⟨nb, hnb, h2⟩ := Option.bind_eq_some_iff.1 h
    split at h2
    case isFalse => cases h2
    rename_i hinb
    have H2 := Aside0.mk h2
    have HN := Aside0.mk hnb
    have HI := Aside0.mk hinb
    have H46 := Aside0.mk h46
    clear h h2 hnb hinb h46
    go_enter Tryd.func51, Tryd.ntmps51
    go_wp2_with ((with_reducible refine gate_dst (N := 2) rfl ?_); refine box_event ?hg (N := 2) ?hd (cs := #[.int .i64 a0_0, .int .i64 a0_1, .slice (some ad) l0_2.length c0_2]) (t := 45) ?hr ?_; (case hd => rfl); (case hg => rfl); (case hr => first | (go_simp; done) | (go_simp; rfl)); intro gb hg w3 hbox hb; (have HB3 := Aside0.mk hb); (have HX := Aside0.mk (Bx.mk ((blk_cell hbox 0).trans rfl) ((blk_cell hbox 1).trans rfl) ((blk_cell hbox 2).trans rfl) (blk_lt hbox) (Kd.C_below HR.out hb))); (obtain ⟨z0, z1, z2, _, _⟩ := HX.out); (obtain ⟨ad2, e2, hcell⟩ := Kd.at_int HX.out.reads a1 HIN.out.1 HIN.out.2); (cases e2); (rw [H46.out] at hcell); clear hbox hb hg)
    obtain ⟨z0, z1, z2, _, _⟩ := HX.out
    refine (impl_tray_beside.calls k a0_0 a0_1 _ c0_2 l0_2 a1 nb _ HX.out.reads HC.out HN.out).mono ?_
    rintro e w5 ⟨v, rfl, hR, hb5⟩
    obtain ⟨A, c, rfl, hlc, hC⟩ := Kd.R_reads hR
    have HX5 := Aside0.mk (HX.out.below hb5)
    have HB5 := Aside0.mk (below_then HB3.out HB3.out.size hb5)
    clear hcell z0 z1 z2 HX HB3 hR
    obtain ⟨z0, z1, z2, _, _⟩ := HX5.out
    have hI := HI.out
    simp only [inB, Bool.and_eq_true, decide_eq_true_eq, List.all_eq_true] at hI
    have hcl := contI 83 #[.pointer (some ⟨gb, 0, none⟩)] (enters_of Tryd.func83 (by kernel_rfl) rfl) (ballB l0_2) A c nb w5 hC hI.1 (added_pred gb a0_0 a0_1 (some ad) c0_2 l0_2 nb w5 hI.2 HX5.out)
    have HCL := Aside0.mk hcl
    clear hI hcl hC hlc
    go_wp2_with fail
    refine HCL.out.mono ?_
    rintro e w6 ⟨rfl, hb6⟩
    have HX6 := Aside0.mk (HX5.out.below hb6)
    have HB6 := Aside0.mk (below_then HB5.out HB5.out.size hb6)
    clear z0 z1 z2 HX5 HB5 HCL hb5 hb6
    obtain ⟨z0, z1, z2, _, _⟩ := HX6.out
    have h2 := H2.out
    generalize nb.any (ballB l0_2) = bb at h2 ⊢
    cases bb with
    | false =>
      rw [if_neg Bool.false_ne_true] at h2
      obtain rfl := Option.some.inj h2
      go_wp2
      go_ret
      exact ⟨rfl, HB6.out⟩
    | true =>
      rw [if_pos rfl] at h2
      have H3 := Aside0.mk h2
      clear h2 H2
      go_wp2_with fail
      refine (impl_tray_freeWays.calls k a0_0 a0_1 _ c0_2 l0_2 a1 r _ HX6.out.reads HC.out H3.out).mono ?_
      rintro e w7 ⟨rfl, hb7⟩
      go_wp2
      go_ret
      exact ⟨rfl, below_then HB6.out HB6.out.size hb7⟩
  · rw [if_neg h46] at h
    obtain rfl := Option.some.inj h
    have hne : (rd l0_2 a1 != 46) = true := bne_iff_ne.2 h46
    clear h
    go_enter Tryd.func51, Tryd.ntmps51
    go_wp2_with ((with_reducible refine gate_dst (N := 2) rfl ?_); refine box_event ?hg (N := 2) ?hd (cs := #[.int .i64 a0_0, .int .i64 a0_1, .slice (some ad) l0_2.length c0_2]) (t := 45) ?hr ?_; (case hd => rfl); (case hg => rfl); (case hr => first | (go_simp; done) | (go_simp; rfl)); intro gb hg w3 hbox hb; (have HB3 := Aside0.mk hb); (have HX := Aside0.mk (Bx.mk ((blk_cell hbox 0).trans rfl) ((blk_cell hbox 1).trans rfl) ((blk_cell hbox 2).trans rfl) (blk_lt hbox) (Kd.C_below HR.out hb))); (obtain ⟨z0, z1, z2, _, _⟩ := HX.out); (obtain ⟨ad2, e2, hcell⟩ := Kd.at_int HX.out.reads a1 HIN.out.1 HIN.out.2); (cases e2);  clear hbox hb hg)
    go_ret
    exact ⟨rfl, HB3.out⟩
end Go.Proofs.YtbplbbialcbceaaDoor.Q
