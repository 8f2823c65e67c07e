/- Contract, by hand, of strings.Split at a separator of one byte, in the printer's form. -/
import Derived.Test.YtpjanlpjjemenaaDoorHStr
import Derived.Shelf.Strings.SplitCore
import Derived.Lib.SplitLaws
import Derived.Lib.IndexBytes
namespace Go.Proofs.YtpjanlpjjemenaaDoor.Hand
open Go.RowKit Go.Proofs.YtpjanlpjjemenaaDoorW.PrintWords Go.Proofs.YtpjanlpjjemenaaDoorW.PrintLast Go.Proofs.YtpjanlpjjemenaaDoorW.PrintMore
set_option linter.unusedVariables false
set_option linter.unusedSimpArgs false

theorem one_of (a : ByteArray) (b : UInt8) (h : a.data.toList = [b]) : a = ⟨#[b]⟩ := by
  cases a with | mk d => congr 1; exact Array.toList_inj.1 h
theorem indexB_one (x : ByteArray) (b : UInt8) : Lib.indexB x ⟨#[b]⟩ = Lib.indexByte x.data.toList b := by
  rw [Lib.one x ⟨#[b]⟩ rfl]
  congr 1
  show ((b.toNat : Nat) : Int).toNat.toUInt8 = b
  simp
theorem count_by (l : List UInt8) (b : UInt8) : (Lib.indexByte l b = -1 → l.count b = 0) ∧ ∀ i : Nat, Lib.indexByte l b = i → l.count b = 1 + (l.drop (i + 1)).count b := by
  induction l with
  | nil => exact ⟨fun _ => rfl, fun i h => by simp [Lib.indexByte] at h⟩
  | cons x l ih =>
    have hg := Lib.indexByte_ge l b
    unfold Lib.indexByte
    by_cases e : (x == b) = true
    · rw [if_pos e]
      refine ⟨fun h => by omega, fun i h => ?_⟩
      obtain rfl : i = 0 := by omega
      rw [List.count_cons, if_pos e, List.drop_succ_cons, List.drop_zero]; omega
    · rw [if_neg e]
      by_cases e2 : (Lib.indexByte l b == -1) = true
      · rw [if_pos e2]
        refine ⟨fun _ => ?_, fun i h => by omega⟩
        rw [List.count_cons, if_neg e, ih.1 (beq_iff_eq.1 e2)]
      · rw [if_neg e2]
        have h3 : ¬ Lib.indexByte l b = -1 := fun h => e2 (by simp [h])
        refine ⟨fun h => by omega, fun i h => ?_⟩
        obtain ⟨j, rfl⟩ : ∃ j, i = j + 1 := ⟨i - 1, by omega⟩
        rw [List.count_cons, if_neg e, ih.2 j (by omega), List.drop_succ_cons]; omega
theorem countB_one (b : UInt8) : ∀ (k : Nat) (s : ByteArray), s.size ≤ k → Lib.countB s ⟨#[b]⟩ = Lib.countByte s.data.toList b := by
  intro k
  induction k with
  | zero =>
    intro s hs
    have h0 : s.data.toList = [] := List.eq_nil_of_length_eq_zero (by rw [← Lib.size_eq]; omega)
    rw [Lib.countB_miss s ⟨#[b]⟩ (by rw [indexB_one, h0]; rfl)]
    unfold Lib.countByte; rw [h0]; rfl
  | succ k ih =>
    intro s hs
    have hc := count_by s.data.toList b
    rcases Lib.indexB_cases s ⟨#[b]⟩ with hix | ⟨i, hix, hroom⟩
    · rw [Lib.countB_miss s _ hix]
      rw [indexB_one] at hix
      exact (hc.1 hix).symm
    · rw [Lib.countB_hit s ⟨#[b]⟩ i (Nat.le_refl 1) hix]
      rw [indexB_one] at hix
      have hsz : (⟨#[b]⟩ : ByteArray).size = 1 := rfl
      rw [hsz] at hroom ⊢
      rw [ih _ (by rw [ByteArray.size_extract]; omega)]
      show 1 + List.count b (s.extract (i + 1) s.size).data.toList = List.count b s.data.toList
      rw [hc.2 i hix, Lib.extract_data]
      congr 2
      rw [List.take_of_length_le]
      rw [List.length_drop, ← Lib.size_eq]; omega
def strings_Split.f (s c : ByteArray) : Option (List ByteArray) :=
  if s.size < 4294967281 then
    match c.data.toList with
    | [b] => some (Lib.splitB ⟨#[b]⟩ 0 (Lib.countB s ⟨#[b]⟩) s)
    | _ => none
  else none
theorem info_str : (Tryd.prog.info? 9).map (fun i => (i.zero, i.size, i.bytes)) = some (some (.string ByteArray.empty), 1, 16) := by kernel_rfl
set_option maxHeartbeats 2000000 in
set_option maxRecDepth 100000 in
theorem strings_Split.calls (a0 a1 : ByteArray) (r : List ByteArray) (w : World) (h : strings_Split.f a0 a1 = some r) :
    Calls Tryd.prog 75 #[.string a0, .string a1] w fun e w' => ∃ v0_ : Value, e = .returned v0_ ∧ Kd.R Kd.string 9 w' w.heap.size (fun _ => True) v0_ r ∧ Below w.heap.size w w' := by
  unfold strings_Split.f at h
  split at h
  case isFalse => cases h
  rename_i hs
  match hb : a1.data.toList, h with
  | [b], h =>
    simp only [Option.some.injEq] at h
    subst h
    obtain rfl := one_of a1 b hb
    clear hb
    have hcl : Lib.countB a0 ⟨#[b]⟩ ≤ a0.size := Lib.countB_le ⟨#[b]⟩ (Nat.le_refl 1) a0.size a0 (Nat.le_refl _)
    have hlen := Lib.splitB_all ⟨#[b]⟩ (Nat.le_refl 1) 0 (Lib.countB a0 ⟨#[b]⟩) a0 rfl
    have c := Any.strings_genSplit_core Tryd.lays221 (by kernel_rfl) a0 ⟨#[b]⟩ 0 (-1) (Lib.countB a0 ⟨#[b]⟩ + 1) w hs (Nat.le_refl 1) (Nat.zero_le _)
      (fun x c _ => (Tryd.strings_Index_one x b _).mono fun e w' h => ⟨by rw [h.1, indexB_one], h.2⟩)
      ((Tryd.strings_Count_one a0 b w).mono fun e w' h => ⟨by rw [h.1, countB_one b a0.size a0 (Nat.le_refl _)], h.2⟩)
      (by decide) (by decide) (by rw [if_pos (by decide)]; omega)
    rw [show Lib.countB a0 ⟨#[b]⟩ + 1 - 1 = Lib.countB a0 ⟨#[b]⟩ by omega] at c
    generalize hL : Lib.splitB ⟨#[b]⟩ 0 (Lib.countB a0 ⟨#[b]⟩) a0 = L at *
    rw [← hlen, Lib.cellsOf_full] at c
    have HC := Aside0.mk c
    have HL := Aside0.mk hlen
    clear c hlen
    go_enter Tryd.func75, Tryd.ntmps75
    go_wp2_with (go_at_call 103; (refine HC.out.mono ?_); rintro e w2 ⟨rfl, hw⟩; rw [hw])
    go_ret
    refine ⟨_, rfl, Kd.R_of_own ?_ (fun _ _ => trivial), (Below.refl _ _).alloc (Nat.le_refl _) _⟩
    refine ⟨by rw [encs_length, Nat.mul_one], .inr ⟨w.heap.size, L.length, _, rfl, Nat.le_refl _, heap_alloc_new w _, Nat.le_refl _, ?_, ?_, ?_⟩⟩
    · have := HL.out; simp only [maxLen]; omega
    · simp
    · simp only [encs, Nat.mul_one]
      exact List.take_of_length_le (by simp)
end Go.Proofs.YtpjanlpjjemenaaDoor.Hand
