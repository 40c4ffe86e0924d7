/- Conversions of strings to bytes and of a small rune to a string, as one step of a walk. -/
import Derived.Test.YtbplbbialcbceaaDoorQ0
import Derived.Lib.ConvBytes
import Derived.Laws.Runes
namespace Go.Proofs.YtbplbbialcbceaaDoor.Q
open Go.RowKit Go.Proofs.YtbplbbialcbceaaDoorW.PrintWords Go.Proofs.YtbplbbialcbceaaDoorW.PrintLast Go.Proofs.YtbplbbialcbceaaDoorW.PrintMore

def convB.f (s : ByteArray) : Option (List Int) := if s.size ≤ 140737488355328 then some (bytesOf s) else none
def runeS.f (x : Int) : Option ByteArray := some (Utf8.encode x)

section
variable {P : Program} {ops : Array Oper} {Q : Exit → Act → World → Prop} {rest : List Oper} {o : Oper} {a : Act} {W : World}
theorem bytes_read_of {W' : World} {g : Nat} {e : TypeId} (s : ByteArray) (hs : s.size ≤ 140737488355328) (cs : Array Value) (fr : Nat × Nat)
    (hb : W'.heap[g]? = some (.cells ((s.data.map fun b => Value.int .u8 b.toNat) ++ cs) e fr)) : Kd.C (Kd.int .u8) W' (some ⟨g, 0, none⟩) (bytesOf s).length (bytesOf s) := by
  have hl : (bytesOf s).length = s.size := bytesOf_length s
  refine ⟨rfl, by omega, fun _ => ⟨_, rfl, fun j p hj => ⟨[.int .u8 p], rfl, rfl, fun i u hu => ?_⟩⟩⟩
  have hi : i = 0 := by
    rcases i with _ | i
    · rfl
    · simp at hu
  subst hi
  have hu' : u = .int .u8 p := by simpa using hu.symm
  subst hu'
  have hjl : j < s.size := by have := (List.getElem?_eq_some_iff.1 hj).1; omega
  have hp : p = ((s.data[j]'(by simpa using hjl)).toNat : Int) := by
    have h2 : (bytesOf s)[j]? = some ((s.data[j]'(by simpa using hjl)).toNat : Int) := by
      unfold bytesOf
      rw [List.getElem?_map, List.getElem?_eq_getElem (by simpa using hjl)]
      simp
    rw [h2] at hj
    exact (Option.some.inj hj).symm
  subst hp
  have hsz : (Kd.int IntKind.u8).sz = 1 := rfl
  rw [hsz, Nat.mul_one, Nat.add_zero, add_plain]
  have hjd : j < s.data.size := by simpa using hjl
  simp [World.cell?, hb, Array.getElem?_append]
  rw [if_pos hjl, Array.getElem?_eq_getElem hjd]
  rfl

theorem V_bytes {W1 : World} {g B base cap : Nat} {e : TypeId} (s : ByteArray) (hs : s.size ≤ 140737488355328) (cs : Array Value) (fr : Nat × Nat)
    (hb : W1.heap[g]? = some (.cells ((s.data.map fun b => Value.int .u8 b.toNat) ++ cs) e fr)) (hg : B ≤ g) (hcap : s.size ≤ cap) :
    Kd.V (Kd.int .u8) e W1 base (fun k_ => B ≤ k_) (.slice (some ⟨g, 0, none⟩) s.size cap) (bytesOf s) := by
  have hl : (bytesOf s).length = s.size := bytesOf_length s
  refine ⟨some ⟨g, 0, none⟩, cap, by rw [hl], by rw [hl]; exact hcap, fun W' hW' => ?_⟩
  have hlt : g < W1.heap.size := (Array.getElem?_eq_some_iff.1 hb).1
  exact bytes_read_of s hs cs fr ((hW' g hg hlt).trans hb)

theorem convB.step (hgd : o.guard = none) {N : Tmp} (_hd : o.dst = some N) (src dst e : TypeId) (x : Operand) (ho : o.op = .convert src dst x) {us : TypeDesc}
    (hsrc : P.underlying src = some us) (hdst : P.underlying dst = some (.slice e)) (he : P.underlying e = some (.int .u8)) {s : ByteArray} {r : List Int} (hx : a.eval x = .string s) (hr : convB.f s = some r)
    (h : ∀ v1 w1, Kd.V (Kd.int .u8) e w1 W.heap.size (fun k_ => W.heap.size ≤ k_) v1 r → Below W.heap.size W w1 → wpList P ops Q rest (a.put o.dst v1) w1) : wpList P ops Q (o :: rest) a W := by
  unfold convB.f at hr
  split at hr
  · rename_i hs
    obtain rfl := Option.some.inj hr
    have hrun := Lib.run_convert_string_bytes (P := P) W src dst e s hsrc hdst he
    refine Kd.event_run hgd (w1 := Lib.bytesWorld W e s) (v := .slice (some ⟨W.heap.size, 0, none⟩) s.size (grownCap W s.size 0 e)) ?_ ?_
    · simp [execOp, ho, hx, hrun]
    · refine h _ _ ?_ ?_
      · have hl : (bytesOf s).length = s.size := bytesOf_length s
        refine ⟨some ⟨W.heap.size, 0, none⟩, grownCap W s.size 0 e, by rw [hl], by rw [hl]; exact grownCap_ge _ _ _ _, fun W' hW' => ?_⟩
        have hn := Lib.bytesWorld_at_new W e s
        have hk := hW' W.heap.size (Nat.le_refl _) (by rw [Lib.bytesWorld_size]; omega)
        rw [hn] at hk
        exact bytes_read_of s hs _ _ hk
      · exact ⟨rfl, rfl, rfl, by rw [Lib.bytesWorld_size]; omega, fun i hi => Lib.bytesWorld_at_old W e s i hi⟩
  · cases hr

/-- A literal of bytes, and its conversion to its own type (a constant text's bytes): one event. -/
def litB.f (l : List Int) : Option (List Int) := some l
def litWorld (W : World) (e : TypeId) (cs : Array Value) : World := (W.alloc (.cells cs e)).freeze ⟨W.heap.size, cs.size, none⟩ 1
theorem litWorld_old (W : World) (e : TypeId) (cs : Array Value) (j : Nat) (hj : j < W.heap.size) : (litWorld W e cs).heap[j]? = W.heap[j]? := by
  have h1 : W.heap.size ≠ j := by omega
  simp [litWorld, World.freeze, World.alloc, -World.alloc_eq, Array.getElem?_modify, Array.getElem?_push, h1, Ne.symm h1]
theorem litWorld_new (W : World) (e : TypeId) (cs : Array Value) : (litWorld W e cs).heap[W.heap.size]? = some (.cells cs e (cs.size, cs.size + 1)) := by
  simp [litWorld, World.freeze, World.alloc, -World.alloc_eq]
  rw [Array.getElem_modify_self]
  simp
theorem litWorld_size (W : World) (e : TypeId) (cs : Array Value) : (litWorld W e cs).heap.size = W.heap.size + 1 := by
  simp [litWorld, World.freeze, World.alloc, -World.alloc_eq]
theorem lit_read {W' : World} {g : Nat} {e : TypeId} {fr : Nat × Nat} (l : List Int) (hl : l.length ≤ 1000) (hb : W'.heap[g]? = some (.cells (l.map (Value.int .u8)).toArray e fr)) : Kd.C (Kd.int .u8) W' (some ⟨g, 0, none⟩) l.length l := by
  refine ⟨rfl, by omega, fun _ => ⟨_, rfl, fun j p hj => ⟨[.int .u8 p], rfl, rfl, fun i u hu => ?_⟩⟩⟩
  have hi : i = 0 := by
    rcases i with _ | i
    · rfl
    · simp at hu
  subst hi
  obtain rfl : u = .int .u8 p := by simpa using hu.symm
  have hsz : (Kd.int IntKind.u8).sz = 1 := rfl
  rw [hsz, Nat.mul_one, Nat.add_zero, add_plain]
  simp [World.cell?, hb, hj]
theorem litB.step {o1 o2 : Oper} (hg1 : o1.guard = none) (hg2 : o2.guard = none) {N1 N2 : Tmp} (_hd1 : o1.dst = some N1) (_hd2 : o2.dst = some N2) (T e : TypeId) (x : Operand) (ho2 : o2.op = .convert T T x)
    (hT : P.underlying T = some (.slice e)) (he : P.underlying e = some (.int .u8)) (l : List Int) (hl : l.length ≤ 1000)
    (hrun : (execOp a.eval o1).run P W = .ok (.value (.slice (some ⟨W.heap.size, 0, none⟩) l.length l.length)) (W.alloc (.cells (l.map (Value.int .u8)).toArray e)))
    (hx : (a.put o1.dst (.slice (some ⟨W.heap.size, 0, none⟩) l.length l.length)).eval x = .slice (some ⟨W.heap.size, 0, none⟩) l.length l.length) {r : List Int} (hr : litB.f l = some r)
    (h : ∀ v1 w1, Kd.V (Kd.int .u8) e w1 W.heap.size (fun k_ => W.heap.size ≤ k_) v1 r → Below W.heap.size W w1 → wpList P ops Q rest ((a.put o1.dst v1).put o2.dst v1) w1) : wpList P ops Q (o1 :: o2 :: rest) a W := by
  obtain rfl := Option.some.inj hr
  refine Kd.event_run hg1 hrun (Kd.event_run hg2 (w1 := litWorld W e (l.map (Value.int .u8)).toArray) (v := .slice (some ⟨W.heap.size, 0, none⟩) l.length l.length) ?_ ?_)
  · have hsh : (W.alloc (.cells (l.map (Value.int .u8)).toArray e)).shape? W.heap.size = some (e, (l.map (Value.int .u8)).toArray.size) := by
      simp [World.shape?, World.alloc, -World.alloc_eq]
    simp [execOp, ho2, hx, convert, run_underlying hT, run_underlying he, markStringish, Question.forced, hsh, Result.andThen, litWorld]
  · refine h _ _ ⟨some ⟨W.heap.size, 0, none⟩, l.length, rfl, Nat.le_refl _, fun W' hW' => ?_⟩ ⟨rfl, rfl, rfl, by rw [litWorld_size]; omega, fun i hi => litWorld_old _ _ _ i hi⟩
    have hk := hW' W.heap.size (Nat.le_refl _) (by rw [litWorld_size]; omega)
    rw [litWorld_new] at hk
    exact lit_read l hl hk
theorem runeS.step (hgd : o.guard = none) {N : Tmp} (_hd : o.dst = some N) (src dst : TypeId) (k : IntKind) (x : Operand) (ho : o.op = .convert src dst x)
    (hsrc : (P.underlying src).isSome = true) (hdst : P.underlying dst = some .string) {n : Int} {r : ByteArray} (hx : a.eval x = .int k n) (hr : runeS.f n = some r)
    (h : wpList P ops Q rest (a.put o.dst (.string r)) W) : wpList P ops Q (o :: rest) a W := by
  obtain rfl := Option.some.inj hr
  refine Kd.event_run hgd (w1 := W) (v := .string (Utf8.encode n)) ?_ h
  simp [execOp, ho, hx, run_convert_int_string W src dst k n hsrc hdst]
end
end Go.Proofs.YtbplbbialcbceaaDoor.Q
