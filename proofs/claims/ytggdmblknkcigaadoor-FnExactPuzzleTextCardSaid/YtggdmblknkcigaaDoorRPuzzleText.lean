import Derived.Test.YtggdmblknkcigaaDoorCards
import Derived.Test.YtggdmblknkcigaaDoorTie
import Derived.Test.YtggdmblknkcigaaDoorJPuzzleText04
import Derived.WalkKit
import Derived.ProofKit
import Derived.OpenShut
import Derived.ShutString
import Derived.ChangeOld
import Derived.Below
import Derived.SizedLaws
import Derived.Deep.DeepHandedRow
import Derived.Lay
import Derived.Shelf.Vars
import Derived.SevenTiedAt
import Derived.Lib.SmallJoins
import Derived.ChangeArms
namespace Go.Proofs.YtggdmblknkcigaaDoor.fnExactPuzzleText
open Go.ChangeShapes Go.WideShapes Go.ChangeAt Go.RowKit
open Go.ChangeMaps (open_string shut_string)
open Go.Joins (open_agg3 shut_agg3)
set_option linter.unusedVariables false
theorem own : ownKnob Tryd.prog.godebug = none := by kernel_rfl
theorem good_of_shape {W : World} (h : W.ShapedOpen Tryd.prog) : Q.GoodW W :=
 cell_of_shapedOpen_int (g := 1) (t := 3) (zero := #[.int .i64 0]) h (of_decide_eq_true (by kernel_rfl)) (by kernel_rfl) rfl (by kernel_rfl) (by kernel_rfl) Tryd.underlying3
theorem walk (a0 a1 : ByteArray) (a2 : Int) (m0 : a0.size ≤ 9223372036854775807) (m1 : a1.size ≤ 9223372036854775807) (W : World) (hG : Q.GoodW W) : Calls Tryd.prog 3 #[.agg #[.string a0, .string a1, .int .i64 a2]] W fun e W' => e = .returned (.bool true) ∧ Below W.heap.size W W' := by
 obtain ⟨k, hk⟩ := (Q.lawPuzzleText_ev a0 a1 a2 m0 m1).out
 exact Q.laws_FnExactPuzzleText.calls k a0 a1 a2 true W hG hk
theorem laid_met (os : Os) : laidMet Tryd.prog Rows.fnExactPuzzleTextRow.laid ((World.laidAll Tryd.prog os Rows.fnExactPuzzleTextRow.laid).forCall (fun _ _ => 0) ⟨#[], #[.agg #[.string ByteArray.empty, .string ByteArray.empty, .int .i64 0]], []⟩).memory :=
 laidMet_laidAll _ (by kernel_rfl) (by kernel_rfl)
theorem reads (os : Os) {H : Type} (enc : TypeId × Value → H) : ∃ places, DataW.whole enc Tryd.prog ((World.laidAll Tryd.prog os Rows.fnExactPuzzleTextRow.laid).forCall (fun _ _ => 0) ⟨#[], #[.agg #[.string ByteArray.empty, .string ByteArray.empty, .int .i64 0]], []⟩).memory Tryd.f3.params.toList Rows.fnExactPuzzleTextSpec.vars false #[Value.agg #[.string ByteArray.empty, .string ByteArray.empty, .int .i64 0]].toList 8 = some ([.agg [.lit (.string ByteArray.empty.data.toList), .lit (.string ByteArray.empty.data.toList), .lit (.int .i64 0)]], [], places) :=
 ⟨[], by kernel_rfl⟩
theorem puz_shut {H : Type} {enc : TypeId × Value → H} (W' : World) {b : Nat} {sp : Nat → Bool} {hd : Bool} (x y : ByteArray) (z : Int) (hx : x.size ≤ maxLen) (hy : y.size ≤ maxLen) (hz : (Lit.int .i64 z).wf = true) :
  DataW.Trod enc Tryd.prog W' b sp hd 23 (.agg #[.string x, .string y, .int .i64 z]) (.agg [.lit (.string x.data.toList), .lit (.string y.data.toList), .lit (.int .i64 z)]) [] :=
 shut_agg3 (enc := enc) (w := W') (base := b) (spare := sp) (held := hd) (y0 := (.lit (.string x.data.toList), [])) (y1 := (.lit (.string y.data.toList), [])) (y2 := (.lit (.int .i64 z), [])) Tryd.underlying23 (by kernel_rfl) (by kernel_rfl) ⟨1, by simp [DataW.trod, Tryd.underlying9, hx]⟩ ⟨1, by simp [DataW.trod, Tryd.underlying9, hy]⟩ ⟨1, by simp [DataW.trod, Tryd.underlying3, hz]⟩
set_option maxRecDepth 100000 in
theorem lifted (os : Os) (started : os.Started) (H : Type) (enc : TypeId × Value → H) (F : Stop.Interp) :
  ReturnsInHanded {} Tryd.checked os 3 .any ((OpenSpec.ofChange Rows.fnExactPuzzleTextSpec).preRow enc Tryd.prog Tryd.f3 Rows.fnExactPuzzleTextRow.domain false Rows.fnExactPuzzleTextRow.laid) (((OpenSpec.ofChange Rows.fnExactPuzzleTextSpec).at F).post enc Tryd.prog Tryd.f3 false true false false) := by
 obtain ⟨places, hx⟩ := reads os enc
 refine returnsInHanded_of_row (C := Tryd.checked) (s := OpenSpec.ofChange Rows.fnExactPuzzleTextSpec) own started (by kernel_rfl) Tryd.func3
  (witness_row_at (enc := enc) (C := Tryd.checked) false (World.laidAll Tryd.prog os Rows.fnExactPuzzleTextRow.laid) #[.agg #[.string ByteArray.empty, .string ByteArray.empty, .int .i64 0]] (World.laidAll_os _ _ _) (by kernel_rfl) (by kernel_rfl) (by kernel_rfl)
   (OpenSpec.preRow_of_cond 8 hx (by kernel_rfl) (fun k hk => by cases hk) (by kernel_rfl) (laid_met os))) ?_
 intro W base args ds gs before hval0 hW _ _ hsz0 _ hsh _
 have hsz : (DataW.weightsEach Tryd.prog (Tryd.f3.params.toList ++ Rows.fnExactPuzzleTextSpec.plain.varTypes Tryd.prog) (ds ++ gs)).all (· ≤ reachBytes) = true := hsz0
 have hval : ∀ (j : Nat) t v, Tryd.f3.params[j]? = some t → args[j]? = some v → Value.okWide Tryd.prog W .any base t v := hval0
 have hW' := hW
 obtain ⟨p, q, hA0, hV, rfl, hfz, hnd⟩ := hW
 have hA : DataW.TrodAll enc Tryd.prog W 0 (fun _ => true) true Tryd.f3.params.toList args.toList ds p := hA0
 rw [Tryd.params3] at hA hval hsz
 obtain ⟨v0, vs0, d0, ds0, p0, q0, hargs, rfl, rfl, h0, r0⟩ := trodAll_cons hA
 obtain ⟨rfl, rfl, rfl⟩ := trodAll_nil r0
 obtain rfl : args = #[v0] := by cases args; simp_all
 obtain ⟨rfl, rfl⟩ := trodVars_none hV
 obtain ⟨c0, c1, c2, z0, z1, z2, mm, rfl, rfl, rfl, hy0, hy1, hy2⟩ := open_agg3 Tryd.underlying23 (by kernel_rfl) (by kernel_rfl) (hval 0 23 v0 rfl rfl) h0
 obtain ⟨a0, e0, rfl, w0⟩ := DataW.trod_string Tryd.underlying9 hy0
 obtain ⟨a1, e1, rfl, w1⟩ := DataW.trod_string Tryd.underlying9 hy1
 obtain ⟨a2, e2, rfl, w2⟩ := DataW.trod_int Tryd.underlying3 hy2
 simp only [List.cons.injEq, and_true] at e0 e1 e2
 subst e0 e1 e2
 clear hA0 hval0 hsz0 hsz
 refine (walk a0 a1 a2 (by unfold maxLen at w0; exact w0) (by unfold maxLen at w1; exact w1) W (good_of_shape hsh)).mono fun e W' ⟨he, bel⟩ => ?_
 subst he
 exact ⟨_, rfl, _, _, _, [], _, [], hW', trodAll_mk1 (shut_bool Tryd.underlying4 _), (trodAll_cons_mk (puz_shut W' a0 a1 a2 w0 w1 w2) trodAll_mk0), rfl, bel.frame _, fun h => by cases h⟩
theorem said : Rows.FnExactPuzzleTextSaid :=
 OpenClaim.holds_of_cond 3 Tryd.f3 rfl rfl rfl rfl rfl rfl rfl ⟨rfl, rfl, rfl, rfl, rfl⟩ rfl rfl rfl rfl rfl (by kernel_rfl) Tryd.func3 (by kernel_rfl)
  (of_decide_eq_true (by kernel_rfl)) (by unfold Func.isWrapper; first | (rw [if_pos (by decide +kernel)]; kernel_rfl) | (rw [if_neg (by decide +kernel)]; exact ⟨rfl, rfl⟩))
  (fun os started H enc _ F => by rw [OpenClaim.pre_eq_preRow]; exact lifted os started H enc F)
theorem plain (f : FuncId) (fn : Func) (hf : Tryd.pinned.checked.prog.funcNamed "loop.example/g01199/laws.FnExactPuzzleText" = some f) (hfn : Tryd.pinned.checked.prog.funcs[f]? = some fn) :
  true = Tryd.pinned.checked.prog.looks [] ∧ ∀ (j : Nat) t, fn.params[j]? = some t → Tryd.pinned.checked.prog.wantsStandIn t = false := by
 obtain rfl : f = 3 := Option.some.inj ((show Tryd.prog.funcNamed "loop.example/g01199/laws.FnExactPuzzleText" = some 3 by kernel_rfl).symm.trans hf) |>.symm
 obtain rfl : fn = Tryd.f3 := (Option.some.inj (Tryd.func3.symm.trans hfn)).symm
 refine ⟨by kernel_rfl, fun j t ht => ?_⟩
 rw [Tryd.params3] at ht
 obtain rfl : t = 23 := by simpa using Array.mem_of_getElem? ht
 exact (show Tryd.prog.wantsStandIn 23 = false by kernel_rfl)
theorem card : Rows.FnExactPuzzleTextCardSaid :=
 Claim7.holds_tied_plain_at .later [] _ _ _ _ said (fun _ h => by cases h) (by kernel_rfl) (fun _ h => by cases h) fnExactPuzzleText_row_tie rfl ⟨rfl, rfl⟩ (by kernel_rfl) rfl plain (by kernel_rfl)
#print axioms card
end Go.Proofs.YtggdmblknkcigaaDoor.fnExactPuzzleText
