/- blocked's closures: the index of the piece that holds a cell. -/
import Derived.Test.YtbplbbialcbceaaDoorXfunc
import Derived.Test.YtbplbbialcbceaaDoorPnum
import Derived.RangeFuncBox
namespace Go.Proofs.YtbplbbialcbceaaDoor.Q
open Go.RowKit Go.Proofs.YtbplbbialcbceaaDoorW.PrintWords Go.Proofs.YtbplbbialcbceaaDoorW.PrintLast Go.Proofs.YtbplbbialcbceaaDoorW.PrintMore
theorem at_sl {w : World} {A : Option Addr} {n : Nat} {xs : List (List Int)} (h : Kd.C (Kd.slice 3 (Kd.int .i64)) w A n xs) (i : Nat) (h1 : i < n) :
    ∃ ad A0 c0, A = some ad ∧ w.cell? (ad.add i) = some (.slice A0 (xs.getD i []).length c0) ∧ (xs.getD i []).length ≤ c0 ∧ (Kd.int .i64).C w A0 (xs.getD i []).length (xs.getD i []) := by
  obtain ⟨ad, c, e, _, hK, hc0⟩ := Kd.C_get h ([] : List Int) (i : Int) (by omega) (by omega)
  rw [Int.toNat_natCast] at hK hc0
  have hc : ∀ j u, c[j]? = some u → w.cell? (ad.add (i * 1 + j)) = some u := hc0
  obtain ⟨A0, c0, rfl, l0, g0⟩ := hK
  exact ⟨ad, A0, c0, e, by have hq := hc 0 _ rfl; rwa [Nat.mul_one, Nat.add_zero] at hq, l0, g0⟩
/-- The index of the first piece with a cell, -1 for none. -/
def idxOf (v : Int) : List (List Int) → Int
  | [] => -1
  | p :: P => if v ∈ p then 0 else if idxOf v P < 0 then -1 else idxOf v P + 1
theorem idxOf_hit (v : Int) : ∀ (P : List (List Int)) (i : Nat), i < P.length → v ∈ P.getD i [] → (∀ j : Nat, j < i → v ∉ P.getD j []) → idxOf v P = i
  | [], i, hi, _, _ => by simp at hi
  | p :: P, 0, _, hv, _ => if_pos (by simpa using hv)
  | p :: P, i + 1, hi, hv, hno => by
    have ih := idxOf_hit v P i (by simpa using hi) (by simpa using hv) (fun j hj => by simpa using hno (j + 1) (by omega))
    unfold idxOf
    rw [if_neg (by simpa using hno 0 (by omega)), ih, if_neg (by omega)]
    omega
theorem idxOf_miss (v : Int) : ∀ (P : List (List Int)), (∀ j : Nat, j < P.length → v ∉ P.getD j []) → idxOf v P = -1
  | [], _ => rfl
  | p :: P, hno => by
    have ih := idxOf_miss v P (fun j hj => by simpa using hno (j + 1) (by simpa using hj))
    unfold idxOf
    rw [if_neg (by simpa using hno 0 (by simp)), ih, if_pos (by omega)]
set_option maxHeartbeats 4000000 in
set_option maxRecDepth 100000 in
theorem has_cell (g : Nat) (v : Int) (A : Option Addr) (c : Nat) (p : List Int) (W : World) (hl : p.length ≤ 1000000) (hc : p.length ≤ c) (hC : Kd.C (Kd.int .i64) W A p.length p) (hg : W.cell? ⟨g, 0, none⟩ = some (.int .i64 v)) :
    Calls Tryd.prog 78 #[.slice A p.length c, .pointer (some ⟨g, 0, none⟩)] W fun e W' => e = .returned (.bool (decide (v ∈ p))) ∧ Below W.heap.size W W' := by
  obtain ⟨k, hk⟩ := (contains_ev p v hl).out
  have HC := Aside0.mk hC
  have HL := Aside0.mk hc
  have HK := Aside0.mk hk
  generalize decide (v ∈ p) = b at HK ⊢
  clear hC hc hk
  go_enter Tryd.func78, Tryd.ntmps78
  go_wp2_with fail
  refine (slices_Contains_int_int.calls k A c p v b _ HC.out HL.out HK.out).mono ?_
  rintro e w' ⟨rfl, ⟨nd, rfl⟩⟩
  go_wp2
  go_ret
  exact ⟨rfl, pw_below_drewN (Below.refl _ _) _⟩
set_option maxHeartbeats 4000000 in
set_option maxRecDepth 100000 in
theorem idxP (g : Nat) (v : Int) (A0 : Option Addr) (c0 : Nat) (P : List (List Int)) (w : World) (hn : P.length ≤ 1000) (hp : ∀ p ∈ P, p.length ≤ 1000) (hr0 : Kd.C (Kd.slice 3 (Kd.int .i64)) w A0 P.length P) (hlt : g < w.heap.size) (hg : w.cell? ⟨g, 0, none⟩ = some (.int .i64 v)) :
    Calls Tryd.prog 77 #[.slice A0 P.length c0, .func (.func 78) #[] #[.pointer (some ⟨g, 0, none⟩)]] w fun e w' => e = .returned (.int .i64 (idxOf v P)) ∧ Below w.heap.size w w' := by
  have HR := Aside0.mk hr0
  have HG := Aside0.mk hg
  have HP := Aside0.mk hp
  have eg : ∀ args w, (callFunc 78 args).run Tryd.prog w = .ok (.enter 78 args) w := enters_of Tryd.func78 (by kernel_rfl) rfl
  clear hr0 hg hp
  go_enter Tryd.func77, Tryd.ntmps77
  go_wp2
  go_loopg [5, 8] P.length (fun gg _ s8 wr => ∃ kk : Nat, s8 = .int .i64 kk ∧ Aside0 (kk ≤ P.length ∧ P.length - kk ≤ gg ∧ ∀ j : Nat, j < kk → v ∉ P.getD j []) ∧ Aside0 (Below w.heap.size w wr))
  case atStart => exact ⟨0, rfl, ⟨Nat.zero_le _, by omega, fun j hj => absurd hj (Nat.not_lt_zero _)⟩, ⟨Below.refl _ _⟩⟩
  case round =>
    obtain ⟨kk, rfl, HA, HB⟩ := hrel
    by_cases hlk : kk < P.length
    · have c1 : decide ((kk : Int) < (P.length : Int)) = true := decide_eq_true (by omega)
      have p1 : (0 ≤ (kk : Int)) = True := eq_true (by omega)
      have p2 : ((kk : Int) < (P.length : Int)) = True := eq_true (by omega)
      obtain ⟨ad, A1, c1', e1, hx, hl1, hC1⟩ := at_sl (Kd.C_below HR.out HB.out) kk hlk
      cases e1
      have hm : P.getD kk [] ∈ P := by
        rw [List.getD_eq_getElem?_getD, List.getElem?_eq_getElem hlk]
        exact List.getElem_mem hlk
      have hcall := has_cell g v A1 c1' (P.getD kk []) wr (Nat.le_trans (HP.out _ hm) (by decide)) hl1 hC1 ((HB.out.cell (p := ⟨g, 0, none⟩) hlt).trans HG.out)
      generalize hv : P.getD kk [] = pc at hx hcall hm
      have HV := Aside0.mk hv
      clear hv hm hl1 hC1
      cases hq : decide (v ∈ pc) with
      | true =>
        rw [hq] at hcall
        go_wp2_with fail
        refine hcall.mono ?_
        rintro e w' ⟨rfl, hb⟩
        clear hcall
        go_wp2
        go_ret
        refine ⟨?_, below_then HB.out HB.out.size hb⟩
        rw [idxOf_hit v P kk hlk (by rw [HV.out]; exact of_decide_eq_true hq) HA.out.2.2]
        rfl
      | false =>
        rw [hq] at hcall
        go_wp2_with fail
        refine hcall.mono ?_
        rintro e w' ⟨rfl, hb⟩
        clear hcall
        go_wp2
        go_roundg (P.length - (kk + 1))
        case measure => have := HA.out.2.1; omega
        case rel =>
          refine ⟨kk + 1, by first | rfl | rw [wrap64_small kk (by omega)] | simp, ⟨by omega, by omega, fun j hj => ?_⟩, ⟨below_then HB.out HB.out.size hb⟩⟩
          by_cases e : j = kk
          · rw [e, HV.out]
            exact of_decide_eq_false hq
          · exact HA.out.2.2 j (by omega)
    · have hkk := HA.out.1
      obtain rfl : kk = P.length := by omega
      have c1 : decide ((P.length : Int) < (P.length : Int)) = false := decide_eq_false (by omega)
      go_wp2
      go_ret
      refine ⟨?_, HB.out⟩
      rw [idxOf_miss v P HA.out.2.2]
      rfl
set_option maxHeartbeats 4000000 in
set_option maxRecDepth 100000 in
theorem pieceAt_calls (gp : Nat) (v : Int) (A0 : Option Addr) (c0 : Nat) (P : List (List Int)) (w : World) (hn : P.length ≤ 1000) (hp : ∀ p ∈ P, p.length ≤ 1000) (hr0 : Kd.C (Kd.slice 3 (Kd.int .i64)) w A0 P.length P) (hlt : gp < w.heap.size) (hg : w.cell? ⟨gp, 0, none⟩ = some (.slice A0 P.length c0)) :
    Calls Tryd.prog 76 #[.int .i64 v, .pointer (some ⟨gp, 0, none⟩)] w fun e w' => e = .returned (.int .i64 (idxOf v P)) ∧ Below w.heap.size w w' := by
  have hb0 : Below w.heap.size w (w.alloc (.cells #[.int .i64 v] 3)) := below_alloc (Below.refl _ _) _
  have h1 := Boxed.new w 3 (.int .i64 v)
  have hcl := idxP w.heap.size v A0 c0 P (w.alloc (.cells #[.int .i64 v] 3)) hn hp (Kd.C_below hr0 hb0) h1.lt h1.cell
  have hg1 : (w.alloc (.cells #[.int .i64 v] 3)).cell? ⟨gp, 0, none⟩ = some (.slice A0 P.length c0) := (hb0.cell (p := ⟨gp, 0, none⟩) hlt).trans hg
  generalize idxOf v P = r at hcl ⊢
  have HCL := Aside0.mk hcl
  have HB := Aside0.mk hb0
  clear hr0 hn hp hcl hb0 h1 hg
  go_enter Tryd.func76, Tryd.ntmps76
  go_wp2_with fail
  refine HCL.out.mono ?_
  rintro e w' ⟨rfl, hb⟩
  clear HCL
  go_wp2
  go_ret
  exact ⟨rfl, below_then HB.out HB.out.size hb⟩
end Go.Proofs.YtbplbbialcbceaaDoor.Q
