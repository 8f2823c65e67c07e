/- '[]byte("..")' of a constant: the literal's row as it stands behind the conversion. -/
import Derived.Test.YthjljkdiglpbaaaDoorHTab
import Derived.Lib.SlBytesConst
namespace Go.Proofs.YthjljkdiglpbaaaDoor.Hand
open Go.RowKit Go.Shelf Go.Proofs.YthjljkdiglpbaaaDoorW Go.Proofs.YthjljkdiglpbaaaDoorW.PrintWords Go.Proofs.YthjljkdiglpbaaaDoorW.PrintLast Go.Proofs.YthjljkdiglpbaaaDoorW.PrintMore
set_option linter.unusedVariables false
theorem C_lit (w : World) (xs : List Int) (h : xs.length ≤ 9223372036854775807) (t : TypeId) (fr : Nat × Nat) :
    Kd.C (Kd.int .u8) (w.alloc (.cells (xs.map (Value.int .u8)).toArray t fr)) (some ⟨w.heap.size, 0, none⟩) xs.length xs := by
  refine Kd.C_of_reads (enc := Value.int .u8) (d := (0 : Int)) (h1 := fun _ => rfl) ⟨rfl, h, fun _ => ⟨_, rfl, fun j hj => ?_⟩⟩
  rw [add_flat, Nat.zero_add, cell_fresh]
  simp [hj]
theorem V_lit (w : World) (xs : List Int) (h : xs.length ≤ 9223372036854775807) (t : TypeId) (fr : Nat × Nat) (b : Nat) :
    Kd.V (Kd.int .u8) 5 (w.alloc (.cells (xs.map (Value.int .u8)).toArray t fr)) b (fun k_ => k_ < (w.alloc (.cells (xs.map (Value.int .u8)).toArray t fr)).heap.size) (.slice (some ⟨w.heap.size, 0, none⟩) xs.length xs.length) xs :=
  Kd.V_mk (Nat.le_refl _) (Kd.C_F (Kd.heap_int .u8) (C_lit w xs h t fr))
end Go.Proofs.YthjljkdiglpbaaaDoor.Hand
