/- impl.turnedWord of one direction, turned by two quarters: the opposite direction. -/
import Derived.Test.YtbplbbialcbceaaDoorXstr
import Derived.Lib.ConvBytes
import Derived.Laws.BytesArg
import Derived.Deep.LoopGhost
namespace Go.Proofs.YtbplbbialcbceaaDoor.Q
open Go.RowKit Go.Shelf Go.Proofs.YtbplbbialcbceaaDoorW.PrintWords Go.Proofs.YtbplbbialcbceaaDoorW.PrintLast Go.Proofs.YtbplbbialcbceaaDoorW.PrintMore
def impl_turnedWord.f (a0 : ByteArray) (a1 : Int) : Option ByteArray :=
  if a1 = 2 then (if a0.data.toList = [117] then some ⟨#[100]⟩ else if a0.data.toList = [114] then some ⟨#[108]⟩ else if a0.data.toList = [100] then some ⟨#[117]⟩ else if a0.data.toList = [108] then some ⟨#[114]⟩ else none) else none
theorem one_of_list (s : ByteArray) (b : UInt8) (h : s.data.toList = [b]) : s = ⟨#[b]⟩ := by
  obtain ⟨⟨l⟩⟩ := s
  simp at h
  subst h
  rfl
theorem bytesWorld_thawed (w : World) (e : TypeId) (s : ByteArray) (j : Nat) (hj : j < s.size) : (Lib.bytesWorld w e s).frozen? ⟨w.heap.size, j, none⟩ = false := by
  have h := Lib.bytesWorld_at_new w e s
  have h2 : (Lib.bytesCells w e s).size ≥ s.size := by simp [Lib.bytesCells]
  simp [World.frozen?, h]
  omega
set_option maxHeartbeats 4000000 in
set_option maxRecDepth 100000 in
theorem turned_u (w : World) : Calls Tryd.prog 72 #[.string ⟨#[117]⟩, .int .i64 2] w fun e w' => e = .returned (.string ⟨#[100]⟩) ∧ Below w.heap.size w w' := by
  have kb := Lib.run_convert_string_bytes (P := Tryd.prog) w 9 37 5 ⟨#[117]⟩ Tryd.underlying9 Tryd.underlying37 Tryd.underlying5
  have hc0 := Lib.bytesWorld_cell w 5 ⟨#[117]⟩ 0 (by decide)
  have hf0 := bytesWorld_thawed w 5 ⟨#[117]⟩ 0 (by decide)
  have hB0 : Below w.heap.size w (Lib.bytesWorld w 5 ⟨#[117]⟩) := ⟨rfl, rfl, rfl, by rw [Lib.bytesWorld_size]; omega, fun i hi => Lib.bytesWorld_at_old w 5 _ i hi⟩
  have hsz : (⟨#[117]⟩ : ByteArray).size = 1 := rfl
  have hv0 : ((((⟨#[117]⟩ : ByteArray).data.toList.getD 0 0).toNat : Nat) : Int) = 117 := rfl
  rw [hsz] at kb
  rw [hv0] at hc0
  have hix : ∀ W, Calls Tryd.prog 108 #[.string ⟨#[117, 114, 100, 108]⟩, .int .u8 117] W fun e w' => e = .returned (.int .i64 0) ∧ w' = W := fun W => by
    have h := Tryd.strings_IndexByte ⟨#[117, 114, 100, 108]⟩ 117 W
    rwa [show Lib.indexByte (⟨#[117, 114, 100, 108]⟩ : ByteArray).data.toList ((117 : Int).toNat.toUInt8) = 0 from by decide] at h
  generalize grownCap w 1 0 5 = cap at kb
  generalize Lib.bytesWorld w 5 ⟨#[117]⟩ = W0 at kb hc0 hf0 hB0
  obtain ⟨W1, hW1⟩ : ∃ W1, W1 = W0.setCell ⟨w.heap.size, 0, none⟩ (.int .u8 100) := ⟨_, rfl⟩
  have hc1 : W1.cell? ⟨w.heap.size, 0, none⟩ = some (.int .u8 100) := by rw [hW1]; exact World.cell?_setCell_same' _ _ _ (by rw [hc0]; rfl)
  have hB1 : Below w.heap.size w W1 := by rw [hW1]; exact below_set hB0 (Nat.le_refl _)
  have hcv := run_convert_bytes_arg (P := Tryd.prog) W1 37 5 Tryd.underlying37 Tryd.underlying5 w.heap.size 0 1 cap [100] rfl (fun i hi => by
    obtain rfl : i = 0 := by omega
    exact hc1) 9 Tryd.underlying9
  have hst : strOfNums [100] = ⟨#[100]⟩ := by decide
  rw [hst] at hcv
  have HB1 := Aside0.mk hB1
  have HW1 := Aside0.mk hW1
  clear hB0 hB1 hsz hv0 hst hW1
  go_enter Tryd.func72, Tryd.ntmps72
  go_wp2
  go_loopg [12] 2 (fun gg v12 wr => (v12 = .int .i64 0 ∧ wr = W0 ∧ gg = 2) ∨ (v12 = .int .i64 1 ∧ wr = W1))
  case atStart => exact Or.inl ⟨rfl, rfl, rfl⟩
  case round =>
    rcases hrel with ⟨rfl, rfl, rfl⟩ | ⟨rfl, rfl⟩
    · clear hcv hc1
      go_wp2_with fail
      refine (hix _).mono ?_
      rintro e w' ⟨rfl, rfl⟩
      go_wp2
      go_roundg 1
      case measure => omega
      case rel => exact Or.inr ⟨rfl, HW1.out.symm⟩
    · clear hix kb
      go_wp2
      go_ret
      exact ⟨rfl, HB1.out⟩
set_option maxHeartbeats 4000000 in
set_option maxRecDepth 100000 in
theorem turned_r (w : World) : Calls Tryd.prog 72 #[.string ⟨#[114]⟩, .int .i64 2] w fun e w' => e = .returned (.string ⟨#[108]⟩) ∧ Below w.heap.size w w' := by
  have kb := Lib.run_convert_string_bytes (P := Tryd.prog) w 9 37 5 ⟨#[114]⟩ Tryd.underlying9 Tryd.underlying37 Tryd.underlying5
  have hc0 := Lib.bytesWorld_cell w 5 ⟨#[114]⟩ 0 (by decide)
  have hf0 := bytesWorld_thawed w 5 ⟨#[114]⟩ 0 (by decide)
  have hB0 : Below w.heap.size w (Lib.bytesWorld w 5 ⟨#[114]⟩) := ⟨rfl, rfl, rfl, by rw [Lib.bytesWorld_size]; omega, fun i hi => Lib.bytesWorld_at_old w 5 _ i hi⟩
  have hsz : (⟨#[114]⟩ : ByteArray).size = 1 := rfl
  have hv0 : ((((⟨#[114]⟩ : ByteArray).data.toList.getD 0 0).toNat : Nat) : Int) = 114 := rfl
  rw [hsz] at kb
  rw [hv0] at hc0
  have hix : ∀ W, Calls Tryd.prog 108 #[.string ⟨#[117, 114, 100, 108]⟩, .int .u8 114] W fun e w' => e = .returned (.int .i64 1) ∧ w' = W := fun W => by
    have h := Tryd.strings_IndexByte ⟨#[117, 114, 100, 108]⟩ 114 W
    rwa [show Lib.indexByte (⟨#[117, 114, 100, 108]⟩ : ByteArray).data.toList ((114 : Int).toNat.toUInt8) = 1 from by decide] at h
  generalize grownCap w 1 0 5 = cap at kb
  generalize Lib.bytesWorld w 5 ⟨#[114]⟩ = W0 at kb hc0 hf0 hB0
  obtain ⟨W1, hW1⟩ : ∃ W1, W1 = W0.setCell ⟨w.heap.size, 0, none⟩ (.int .u8 108) := ⟨_, rfl⟩
  have hc1 : W1.cell? ⟨w.heap.size, 0, none⟩ = some (.int .u8 108) := by rw [hW1]; exact World.cell?_setCell_same' _ _ _ (by rw [hc0]; rfl)
  have hB1 : Below w.heap.size w W1 := by rw [hW1]; exact below_set hB0 (Nat.le_refl _)
  have hcv := run_convert_bytes_arg (P := Tryd.prog) W1 37 5 Tryd.underlying37 Tryd.underlying5 w.heap.size 0 1 cap [108] rfl (fun i hi => by
    obtain rfl : i = 0 := by omega
    exact hc1) 9 Tryd.underlying9
  have hst : strOfNums [108] = ⟨#[108]⟩ := by decide
  rw [hst] at hcv
  have HB1 := Aside0.mk hB1
  have HW1 := Aside0.mk hW1
  clear hB0 hB1 hsz hv0 hst hW1
  go_enter Tryd.func72, Tryd.ntmps72
  go_wp2
  go_loopg [12] 2 (fun gg v12 wr => (v12 = .int .i64 0 ∧ wr = W0 ∧ gg = 2) ∨ (v12 = .int .i64 1 ∧ wr = W1))
  case atStart => exact Or.inl ⟨rfl, rfl, rfl⟩
  case round =>
    rcases hrel with ⟨rfl, rfl, rfl⟩ | ⟨rfl, rfl⟩
    · clear hcv hc1
      go_wp2_with fail
      refine (hix _).mono ?_
      rintro e w' ⟨rfl, rfl⟩
      go_wp2
      go_roundg 1
      case measure => omega
      case rel => exact Or.inr ⟨rfl, HW1.out.symm⟩
    · clear hix kb
      go_wp2
      go_ret
      exact ⟨rfl, HB1.out⟩
set_option maxHeartbeats 4000000 in
set_option maxRecDepth 100000 in
theorem turned_d (w : World) : Calls Tryd.prog 72 #[.string ⟨#[100]⟩, .int .i64 2] w fun e w' => e = .returned (.string ⟨#[117]⟩) ∧ Below w.heap.size w w' := by
  have kb := Lib.run_convert_string_bytes (P := Tryd.prog) w 9 37 5 ⟨#[100]⟩ Tryd.underlying9 Tryd.underlying37 Tryd.underlying5
  have hc0 := Lib.bytesWorld_cell w 5 ⟨#[100]⟩ 0 (by decide)
  have hf0 := bytesWorld_thawed w 5 ⟨#[100]⟩ 0 (by decide)
  have hB0 : Below w.heap.size w (Lib.bytesWorld w 5 ⟨#[100]⟩) := ⟨rfl, rfl, rfl, by rw [Lib.bytesWorld_size]; omega, fun i hi => Lib.bytesWorld_at_old w 5 _ i hi⟩
  have hsz : (⟨#[100]⟩ : ByteArray).size = 1 := rfl
  have hv0 : ((((⟨#[100]⟩ : ByteArray).data.toList.getD 0 0).toNat : Nat) : Int) = 100 := rfl
  rw [hsz] at kb
  rw [hv0] at hc0
  have hix : ∀ W, Calls Tryd.prog 108 #[.string ⟨#[117, 114, 100, 108]⟩, .int .u8 100] W fun e w' => e = .returned (.int .i64 2) ∧ w' = W := fun W => by
    have h := Tryd.strings_IndexByte ⟨#[117, 114, 100, 108]⟩ 100 W
    rwa [show Lib.indexByte (⟨#[117, 114, 100, 108]⟩ : ByteArray).data.toList ((100 : Int).toNat.toUInt8) = 2 from by decide] at h
  generalize grownCap w 1 0 5 = cap at kb
  generalize Lib.bytesWorld w 5 ⟨#[100]⟩ = W0 at kb hc0 hf0 hB0
  obtain ⟨W1, hW1⟩ : ∃ W1, W1 = W0.setCell ⟨w.heap.size, 0, none⟩ (.int .u8 117) := ⟨_, rfl⟩
  have hc1 : W1.cell? ⟨w.heap.size, 0, none⟩ = some (.int .u8 117) := by rw [hW1]; exact World.cell?_setCell_same' _ _ _ (by rw [hc0]; rfl)
  have hB1 : Below w.heap.size w W1 := by rw [hW1]; exact below_set hB0 (Nat.le_refl _)
  have hcv := run_convert_bytes_arg (P := Tryd.prog) W1 37 5 Tryd.underlying37 Tryd.underlying5 w.heap.size 0 1 cap [117] rfl (fun i hi => by
    obtain rfl : i = 0 := by omega
    exact hc1) 9 Tryd.underlying9
  have hst : strOfNums [117] = ⟨#[117]⟩ := by decide
  rw [hst] at hcv
  have HB1 := Aside0.mk hB1
  have HW1 := Aside0.mk hW1
  clear hB0 hB1 hsz hv0 hst hW1
  go_enter Tryd.func72, Tryd.ntmps72
  go_wp2
  go_loopg [12] 2 (fun gg v12 wr => (v12 = .int .i64 0 ∧ wr = W0 ∧ gg = 2) ∨ (v12 = .int .i64 1 ∧ wr = W1))
  case atStart => exact Or.inl ⟨rfl, rfl, rfl⟩
  case round =>
    rcases hrel with ⟨rfl, rfl, rfl⟩ | ⟨rfl, rfl⟩
    · clear hcv hc1
      go_wp2_with fail
      refine (hix _).mono ?_
      rintro e w' ⟨rfl, rfl⟩
      go_wp2
      go_roundg 1
      case measure => omega
      case rel => exact Or.inr ⟨rfl, HW1.out.symm⟩
    · clear hix kb
      go_wp2
      go_ret
      exact ⟨rfl, HB1.out⟩
set_option maxHeartbeats 4000000 in
set_option maxRecDepth 100000 in
theorem turned_l (w : World) : Calls Tryd.prog 72 #[.string ⟨#[108]⟩, .int .i64 2] w fun e w' => e = .returned (.string ⟨#[114]⟩) ∧ Below w.heap.size w w' := by
  have kb := Lib.run_convert_string_bytes (P := Tryd.prog) w 9 37 5 ⟨#[108]⟩ Tryd.underlying9 Tryd.underlying37 Tryd.underlying5
  have hc0 := Lib.bytesWorld_cell w 5 ⟨#[108]⟩ 0 (by decide)
  have hf0 := bytesWorld_thawed w 5 ⟨#[108]⟩ 0 (by decide)
  have hB0 : Below w.heap.size w (Lib.bytesWorld w 5 ⟨#[108]⟩) := ⟨rfl, rfl, rfl, by rw [Lib.bytesWorld_size]; omega, fun i hi => Lib.bytesWorld_at_old w 5 _ i hi⟩
  have hsz : (⟨#[108]⟩ : ByteArray).size = 1 := rfl
  have hv0 : ((((⟨#[108]⟩ : ByteArray).data.toList.getD 0 0).toNat : Nat) : Int) = 108 := rfl
  rw [hsz] at kb
  rw [hv0] at hc0
  have hix : ∀ W, Calls Tryd.prog 108 #[.string ⟨#[117, 114, 100, 108]⟩, .int .u8 108] W fun e w' => e = .returned (.int .i64 3) ∧ w' = W := fun W => by
    have h := Tryd.strings_IndexByte ⟨#[117, 114, 100, 108]⟩ 108 W
    rwa [show Lib.indexByte (⟨#[117, 114, 100, 108]⟩ : ByteArray).data.toList ((108 : Int).toNat.toUInt8) = 3 from by decide] at h
  generalize grownCap w 1 0 5 = cap at kb
  generalize Lib.bytesWorld w 5 ⟨#[108]⟩ = W0 at kb hc0 hf0 hB0
  obtain ⟨W1, hW1⟩ : ∃ W1, W1 = W0.setCell ⟨w.heap.size, 0, none⟩ (.int .u8 114) := ⟨_, rfl⟩
  have hc1 : W1.cell? ⟨w.heap.size, 0, none⟩ = some (.int .u8 114) := by rw [hW1]; exact World.cell?_setCell_same' _ _ _ (by rw [hc0]; rfl)
  have hB1 : Below w.heap.size w W1 := by rw [hW1]; exact below_set hB0 (Nat.le_refl _)
  have hcv := run_convert_bytes_arg (P := Tryd.prog) W1 37 5 Tryd.underlying37 Tryd.underlying5 w.heap.size 0 1 cap [114] rfl (fun i hi => by
    obtain rfl : i = 0 := by omega
    exact hc1) 9 Tryd.underlying9
  have hst : strOfNums [114] = ⟨#[114]⟩ := by decide
  rw [hst] at hcv
  have HB1 := Aside0.mk hB1
  have HW1 := Aside0.mk hW1
  clear hB0 hB1 hsz hv0 hst hW1
  go_enter Tryd.func72, Tryd.ntmps72
  go_wp2
  go_loopg [12] 2 (fun gg v12 wr => (v12 = .int .i64 0 ∧ wr = W0 ∧ gg = 2) ∨ (v12 = .int .i64 1 ∧ wr = W1))
  case atStart => exact Or.inl ⟨rfl, rfl, rfl⟩
  case round =>
    rcases hrel with ⟨rfl, rfl, rfl⟩ | ⟨rfl, rfl⟩
    · clear hcv hc1
      go_wp2_with fail
      refine (hix _).mono ?_
      rintro e w' ⟨rfl, rfl⟩
      go_wp2
      go_roundg 1
      case measure => omega
      case rel => exact Or.inr ⟨rfl, HW1.out.symm⟩
    · clear hix kb
      go_wp2
      go_ret
      exact ⟨rfl, HB1.out⟩
theorem impl_turnedWord.calls (a0 : ByteArray) (a1 : Int) (r : ByteArray) (w : World) (h : impl_turnedWord.f a0 a1 = some r) :
    Calls Tryd.prog 72 #[.string a0, .int .i64 a1] w fun e w' => e = .returned (.string r) ∧ Below w.heap.size w w' := by
  unfold impl_turnedWord.f at h
  split at h
  case isFalse => cases h
  rename_i h2
  subst h2
  split at h
  · rename_i h1
    obtain rfl := Option.some.inj h
    rw [one_of_list _ _ h1]
    exact turned_u w
  split at h
  · rename_i h1
    obtain rfl := Option.some.inj h
    rw [one_of_list _ _ h1]
    exact turned_r w
  split at h
  · rename_i h1
    obtain rfl := Option.some.inj h
    rw [one_of_list _ _ h1]
    exact turned_d w
  split at h
  · rename_i h1
    obtain rfl := Option.some.inj h
    rw [one_of_list _ _ h1]
    exact turned_l w
  cases h
end Go.Proofs.YtbplbbialcbceaaDoor.Q
