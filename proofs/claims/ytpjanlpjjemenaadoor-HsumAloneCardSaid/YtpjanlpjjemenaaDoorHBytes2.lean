/- Contract, by hand, of bytes.Count at a separator of one byte, in the printer's form. -/
import Derived.Test.YtpjanlpjjemenaaDoorHBytes
import Derived.Shelf.Bytes.SlCountOne
namespace Go.Proofs.YtpjanlpjjemenaaDoor.Hand
open Go.RowKit Go.Proofs.YtpjanlpjjemenaaDoorW.PrintWords Go.Proofs.YtpjanlpjjemenaaDoorW.PrintLast Go.Proofs.YtpjanlpjjemenaaDoorW.PrintMore
set_option linter.unusedVariables false
set_option linter.unusedSimpArgs false

def bytes_Count.f (l0 l1 : List Int) : Option Int :=
  match l1 with
  | [c] => some ((Lib.countByte (Lib.bytesOf l0) c.toNat.toUInt8 : Nat) : Int)
  | _ => none
set_option maxHeartbeats 2000000 in
set_option maxRecDepth 1000000 in
theorem bytes_Count.calls (A0 : Option Addr) (c0 : Nat) (l0 : List Int) (A1 : Option Addr) (c1 : Nat) (l1 : List Int) (r1 : Int) (w : World) (hr0 : Kd.C (Kd.int .u8) w A0 l0.length l0) (hc0 : l0.length ≤ c0) (hr1 : Kd.C (Kd.int .u8) w A1 l1.length l1) (hc1 : l1.length ≤ c1) (h : bytes_Count.f l0 l1 = some r1) :
    Calls Tryd.prog 71 #[.slice A0 l0.length c0, .slice A1 l1.length c1] w fun e w' => e = .returned (.int .i64 r1) ∧ Below w.heap.size w w' := by
  match l1, h, hr1, hc1 with
  | [c], h, hr1, hc1 =>
    simp only [bytes_Count.f, Option.some.injEq] at h
    subst h
    obtain ⟨b2, o2, rfl, hc⟩ := C_at hr1 0 (by simp)
    rw [Nat.add_zero] at hc
    cases A0 with
    | none =>
      have : l0 = [] := by
        rcases Nat.eq_zero_or_pos l0.length with h0 | h0
        · exact List.eq_nil_of_length_eq_zero h0
        · obtain ⟨b, off, e, _⟩ := C_at hr0 0 h0
          cases e
      subst this
      go_enter Tryd.func71, Tryd.ntmps71
      go_wp2
      rw [run_callFunc_extern Tryd.func99 (by kernel_rfl) (by kernel_rfl) (by kernel_rfl) (e := Extern.BytealgCount.count) (by kernel_rfl), Lib.run_countNil w 0 c0 c]
      simp only [Result.andThen]
      rw [Oper.upon_value]
      go_wp2
      go_ret
      exact ⟨by simp [Lib.countByte, Lib.bytesOf], Below.refl _ _⟩
    | some a =>
      refine (Tryd.bytes_Count_one_at a l0.length c0 b2 o2 c1 l0 c w rfl ?_ hc).mono ?_
      · intro i hi
        obtain ⟨b, off, e, hx⟩ := C_at hr0 i hi
        cases e
        rw [add_flat, hx]
        simp [List.getD_eq_getElem?_getD, hi]
      · rintro e w' ⟨rfl, rfl⟩
        exact ⟨rfl, Below.refl _ _⟩
end Go.Proofs.YtpjanlpjjemenaaDoor.Hand
