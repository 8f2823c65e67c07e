/- Contracts, by hand, of strings.LastIndex at one byte, strings.CutPrefix, strings.IndexByte, in the printer's form. -/
import Derived.Test.YtpjanlpjjemenaaDoorHStr
import Derived.Shelf.Strings.LastIndex
import Derived.Shelf.Strings.Prefix
namespace Go.Proofs.YtpjanlpjjemenaaDoor.Hand
open Go.RowKit Go.Proofs.YtpjanlpjjemenaaDoorW.PrintWords Go.Proofs.YtpjanlpjjemenaaDoorW.PrintLast Go.Proofs.YtpjanlpjjemenaaDoorW.PrintMore
set_option linter.unusedVariables false
set_option linter.unusedSimpArgs false

def strings_LastIndex.f (s c : ByteArray) : Option Int :=
  if s.size < 4611686018427387904 then
    match c.data.toList with
    | [b] => some (Lib.lastIndexByte s (b.toNat : Int))
    | _ => none
  else none
theorem strings_LastIndex.calls (a0 a1 : ByteArray) (r : Int) (w : World) (h : strings_LastIndex.f a0 a1 = some r) :
    Calls Tryd.prog 76 #[.string a0, .string a1] w fun e w' => e = .returned (.int .i64 r) ∧ Below w.heap.size w w' := by
  unfold strings_LastIndex.f at h
  split at h
  case isFalse => cases h
  rename_i hs
  match hb : a1.data.toList, h with
  | [b], h =>
    simp only [Option.some.injEq] at h
    have h1 : a1.size = 1 := by rw [Lib.size_eq, hb]; rfl
    have hb0 : a1[0]'(by omega) = b := by
      have := Lib.data_getElem? a1 0 (by omega)
      rw [hb] at this
      exact (Option.some.inj this).symm
    refine (Tryd.strings_LastIndex_one a0 a1 h1 hs w).mono ?_
    rintro e w' ⟨rfl, rfl⟩
    exact ⟨by rw [hb0, h], Below.refl _ _⟩

def strings_CutPrefix.f (s p : ByteArray) : Option (ByteArray × Bool) :=
  some (⟨(Lib.trimPrefix s.data.toList p.data.toList).toArray⟩, Lib.hasPrefix s.data.toList p.data.toList)
theorem strings_CutPrefix.calls (a0 a1 : ByteArray) (r1 : ByteArray) (r2 : Bool) (w : World) (h : strings_CutPrefix.f a0 a1 = some (r1, r2)) :
    Calls Tryd.prog 77 #[.string a0, .string a1] w fun e w' => e = .returned (.tuple #[.string r1, .bool r2]) ∧ Below w.heap.size w w' := by
  simp only [strings_CutPrefix.f, Option.some.injEq, Prod.mk.injEq] at h
  obtain ⟨rfl, rfl⟩ := h
  exact (Tryd.strings_CutPrefix a0 a1 w).mono fun e w' h => ⟨h.1, by rw [h.2]; exact Below.refl _ _⟩

def strings_IndexByte.f (s : ByteArray) (c : Int) : Option Int := some (Lib.indexByte s.data.toList c.toNat.toUInt8)
theorem strings_IndexByte.calls (a0 : ByteArray) (a1 : Int) (r : Int) (w : World) (h : strings_IndexByte.f a0 a1 = some r) :
    Calls Tryd.prog 80 #[.string a0, .int .u8 a1] w fun e w' => e = .returned (.int .i64 r) ∧ Below w.heap.size w w' := by
  simp only [strings_IndexByte.f, Option.some.injEq] at h
  subst h
  exact (Tryd.strings_IndexByte a0 a1 w).mono fun e w' h => ⟨h.1, by rw [h.2]; exact Below.refl _ _⟩
end Go.Proofs.YtpjanlpjjemenaaDoor.Hand
