/- Contract of the document's One, as callers of the printed texts ask for it: the bytes are a view of a new block. -/
import Derived.Test.YthjljkdiglpbaaaDoorF19
namespace Go.Proofs.YthjljkdiglpbaaaDoor.Hand
open Go.RowKit Go.Proofs.YthjljkdiglpbaaaDoor.P Go.Proofs.YthjljkdiglpbaaaDoorW Go.Proofs.YthjljkdiglpbaaaDoorW.PrintWords Go.Proofs.YthjljkdiglpbaaaDoorW.PrintLast Go.Proofs.YthjljkdiglpbaaaDoorW.PrintMore
set_option linter.unusedVariables false
/-- Bytes that are read, in a block that is no elder one than base. -/
theorem V_new {w W : World} {A : Option Addr} {xs : List Int} {c b base : Nat} (h : Kd.C (Kd.int .u8) W A xs.length xs) (hc : xs.length ≤ c) (hn : ∀ a, A = some a → base ≤ a.block) :
    Kd.V (Kd.int .u8) 5 W b (fun k_ => True ∧ base ≤ k_) (.slice A xs.length c) xs := by
  refine Kd.V_mk hc ?_
  intro W' hW
  have hr := Kd.reads_of_C (enc := Value.int .u8) (d := (0 : Int)) (h1 := fun _ => rfl) h
  refine Kd.C_of_reads (enc := Value.int .u8) (d := (0 : Int)) (h1 := fun _ => rfl) ⟨hr.1, hr.2.1, fun hp => ?_⟩
  obtain ⟨ad, e, hcell⟩ := hr.2.2 hp
  refine ⟨ad, e, fun j hj => ?_⟩
  have h1 := hcell j hj
  have h3 : (ad.add j).block = ad.block := add_block _ _
  have hlt := World.block_lt_of_cell? W _ h1
  rw [h3] at hlt
  have h2 := hW ad.block ⟨trivial, hn ad e⟩ hlt
  unfold World.cell? at h1 ⊢
  rw [h3] at h1 ⊢
  rw [h2]
  exact h1
def ref06_One.f (k : Nat) (a0 a1 : ByteArray) : Option (List Int × Int) := thwartref06_One.f k a0 a1
theorem ref06_One.mono : ∀ a0 a1 k, LeO (ref06_One.f k a0 a1) (ref06_One.f (k + 1) a0 a1) := thwartref06_One.mono
theorem ref06_One.calls (k : Nat) (a0 a1 : ByteArray) (r1 : List Int) (r2 : Int) (w : World) (h : ref06_One.f k a0 a1 = some (r1, r2)) :
    Calls Tryd.prog 19 #[.agg #[.string a0, .string a1]] w fun e w' => ∃ v0_ : Value, e = .returned (.tuple #[v0_, .int .i64 r2]) ∧ Kd.V (Kd.int .u8) 5 w' w.heap.size (fun k_ => True ∧ w.heap.size ≤ k_ ∧ True) v0_ r1 ∧ Below w.heap.size w w' := by
  refine (thwartref06_One.calls k a0 a1 r1 r2 w h).mono ?_
  rintro e w' ⟨A, c, rfl, ⟨hC, hn⟩, hc, hb⟩
  exact ⟨_, rfl, Kd.V_mono (V_new (w := w) hC hc hn) (fun _ hk => ⟨hk.1, hk.2, trivial⟩), hb⟩
end Go.Proofs.YthjljkdiglpbaaaDoor.Hand
