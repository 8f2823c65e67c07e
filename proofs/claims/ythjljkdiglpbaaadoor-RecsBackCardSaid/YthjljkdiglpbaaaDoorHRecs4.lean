/- bytes.Cut at one space, of bytes that are some: how many stand ahead of it. -/
import Derived.Test.YthjljkdiglpbaaaDoorHTab
import Derived.Lib.SlBytesConst
namespace Go.Proofs.YthjljkdiglpbaaaDoor.Hand
open Go.RowKit Go.Shelf Go.Proofs.YthjljkdiglpbaaaDoorW Go.Proofs.YthjljkdiglpbaaaDoorW.PrintWords Go.Proofs.YthjljkdiglpbaaaDoorW.PrintLast Go.Proofs.YthjljkdiglpbaaaDoorW.PrintMore
set_option linter.unusedVariables false
set_option linter.unusedSimpArgs false

theorem cell_marked (w : World) (x : Value) (t : TypeId) (fr : Nat × Nat) : (w.alloc (.cells #[x] t fr)).cell? ⟨w.heap.size, 0, none⟩ = some x := by
  have h : (w.alloc (.cells #[x] t fr)).heap[w.heap.size]? = some (.cells #[x] t fr) := by
    show (w.heap.push _)[w.heap.size]? = _
    simp
  unfold World.cell?
  rw [h]; rfl
theorem ixge (l : List UInt8) (c : UInt8) : -1 ≤ Lib.indexByte l c := Lib.indexByte_ge l c
theorem ixlt (l : List UInt8) (c : UInt8) : Lib.indexByte l c < l.length ∨ Lib.indexByte l c = -1 := by
  induction l with
  | nil => exact .inr rfl
  | cons b l ih =>
    have hg := ixge l c
    unfold Lib.indexByte
    by_cases e : (b == c) = true
    · rw [if_pos e]; exact .inl (by simp only [List.length_cons]; omega)
    · rw [if_neg e]
      by_cases e2 : (Lib.indexByte l c == -1) = true
      · rw [if_pos e2]; exact .inr rfl
      · rw [if_neg e2]
        rcases ih with h | h
        · exact .inl (by simp only [List.length_cons]; omega)
        · exact absurd (beq_iff_eq.2 h) e2
/-- How many bytes stand ahead of the first space, and whether there is one. -/
def bytes_Cut1.f (l : List Int) : Option (Int × Bool) :=
  if 0 < l.length ∧ l.length ≤ 4611686018427387904 then
    some (if 0 ≤ Lib.indexByte (Lib.bytesOf l) 32 then Lib.indexByte (Lib.bytesOf l) 32 else (l.length : Int), decide (0 ≤ Lib.indexByte (Lib.bytesOf l) 32))
  else none
theorem bytes_Cut1.at (A0 : Option Addr) (c0 : Nat) (l0 : List Int) (t : Int) (b : Bool) (p2 d : Nat) (w : World) (hr0 : Kd.C (Kd.int .u8) w A0 l0.length l0) (hc0 : l0.length ≤ c0) (hsep : w.cell? ⟨p2, 0, none⟩ = some (.int .u8 32)) (h : bytes_Cut1.f l0 = some (t, b)) :
    Calls Tryd.prog 81 #[.slice A0 l0.length c0, .slice (some ⟨p2, 0, none⟩) 1 d] w fun e w' => ∃ x5, e = .returned (.tuple #[.slice A0 (l0.take t.toNat).length c0, x5, .bool b]) ∧ Below w.heap.size w w' := by
  unfold bytes_Cut1.f at h
  split at h
  case isFalse => cases h
  rename_i hl
  obtain ⟨rfl, rfl⟩ := Prod.mk.inj (Option.some.inj h)
  obtain ⟨_, _, hcl⟩ := Kd.reads_of_C (enc := Value.int .u8) (d := 0) (h1 := fun _ => rfl) hr0
  obtain ⟨ad, rfl, hc⟩ := hcl hl.1
  have hlen : (Lib.bytesOf l0).length = l0.length := Lib.bytesOf_length l0
  have hg := ixge (Lib.bytesOf l0) 32
  have hlt := ixlt (Lib.bytesOf l0) 32
  have hidx : Calls Tryd.prog 101 #[.slice (some ad) l0.length c0, .slice (some ⟨p2, 0, none⟩) 1 d] w fun e w' => e = .returned (.int .i64 (Lib.indexByte (Lib.bytesOf l0) 32)) ∧ ∃ q, w' = w.drewN q :=
    (Tryd.bytes_Index_one_at ad l0.length c0 p2 0 d l0 32 w rfl hc hsep).mono fun e w' h => ⟨h.1, 0, h.2⟩
  refine (Tryd.bytes_Cut_of (some ad) (some ⟨p2, 0, none⟩) l0.length c0 1 d _ w hc0 hg (fun h0 => by omega) hl.2 hidx).mono ?_
  rintro e w' ⟨rfl, q, rfl⟩
  have hb : Below w.heap.size w (w.drewN q) := pw_below_drewN (Below.refl _ _) q
  unfold Lib.cutV
  by_cases h0 : 0 ≤ Lib.indexByte (Lib.bytesOf l0) 32
  · rw [if_pos h0, if_pos h0, decide_eq_true h0]
    have : (l0.take (Lib.indexByte (Lib.bytesOf l0) 32).toNat).length = (Lib.indexByte (Lib.bytesOf l0) 32).toNat := by rw [List.length_take]; omega
    rw [this]
    exact ⟨_, rfl, hb⟩
  · rw [if_neg h0, if_neg h0, decide_eq_false h0]
    have : (l0.take (l0.length : Int).toNat).length = l0.length := by rw [Int.toNat_natCast, List.take_length]
    rw [this]
    exact ⟨_, rfl, hb⟩
end Go.Proofs.YthjljkdiglpbaaaDoor.Hand
