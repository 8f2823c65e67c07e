/- Plain facts on records: what may be, and a record's length, told by both. -/
import Derived.Test.YthjljkdiglpbaaaDoorQRecs
namespace Go.Proofs.YthjljkdiglpbaaaDoor.Q
open Go.RowKit Go.Proofs.YthjljkdiglpbaaaDoor.P Go.Proofs.YthjljkdiglpbaaaDoorW.PrintWords Go.Proofs.YthjljkdiglpbaaaDoorW.PrintLast Go.Proofs.YthjljkdiglpbaaaDoorW.PrintMore Go.Proofs.YthjljkdiglpbaaaDoor.Hand
set_option linter.unusedVariables false
set_option linter.unusedSimpArgs false

def badB (b : UInt8) : Bool := b == 61 || b == 10 || b == 0
theorem any_is (s : List UInt8) : Lib.containsAny s [61, 10, 0] = s.any badB := by
  unfold Lib.containsAny
  induction s with
  | nil => rfl
  | cons b l ih =>
    have hg := Lib.indexAny_ge [61, 10, 0] l
    have hc : ([61, 10, 0] : List UInt8).contains b = badB b := by simp only [List.contains_cons, List.contains_nil, Bool.or_false, badB, Bool.or_assoc]
    rw [Lib.indexAny, hc, List.any_cons]
    cases hb : badB b
    · rw [if_neg (by decide), ← ih, Bool.false_or]
      by_cases e : Lib.indexAny l [61, 10, 0] = -1
      · rw [e]; rfl
      · rw [if_neg (by simpa using e)]
        rw [decide_eq_true (by omega), decide_eq_true (by omega)]
    · rfl
def mayE (a0 a1 : ByteArray) : Int := if (a0.data.toList.any badB = true ∨ a0.size < 1 ∨ 60 < a0.size) then 3 else if 2000 < a1.size then 10 else 0
theorem may_mine (k : Nat) (a0 a1 : ByteArray) (h : a0.size < 4294967281) : recs_May.f (k + 1) a0 a1 = some (mayE a0 a1) := by
  unfold recs_May.f mayE
  have j : ∀ x, recs_May.j0 (k + 1) x a0 a1 = if x = true then some 3 else if 2000 < a1.size then some 10 else some 0 := by
    intro x
    rw [recs_May.j0]
    by_cases h2 : 2000 < a1.size
    · rw [if_pos (show (a1.size : Int) > 2000 by omega), if_pos h2]
    · rw [if_neg (show ¬ (a1.size : Int) > 2000 by omega), if_neg h2]
  by_cases c1 : a0.toList = ([] : List UInt8)
  · have : a0.size = 0 := by rw [szL, ← toL, c1]; rfl
    rw [if_pos c1, j, if_pos rfl, if_pos (.inr (.inl (by omega)))]
  rw [if_neg c1]
  have hs : 1 ≤ a0.size := by
    rw [szL, ← toL]; exact List.length_pos_iff.2 c1
  by_cases c2 : 60 < a0.size
  · rw [if_pos (show (a0.size : Int) > 60 by omega), j, if_pos rfl, if_pos (.inr (.inr c2))]
  rw [if_neg (show ¬ (a0.size : Int) > 60 by omega)]
  unfold strings_ContainsAny.f
  rw [if_pos ⟨by decide, by decide, h, by decide⟩, Option.bind_some, j, show (⟨#[61, 10, 0]⟩ : ByteArray).data.toList = [61, 10, 0] from rfl, any_is]
  by_cases c3 : a0.data.toList.any badB = true
  · rw [if_pos c3, if_pos (.inl c3)]
  · have hno : ¬ (a0.data.toList.any badB = true ∨ a0.size < 1 ∨ 60 < a0.size) := fun h => h.elim c3 fun h => h.elim (fun h => by omega) c2
    rw [if_neg c3, if_neg hno]
    split <;> rfl
theorem may_loop (a0 a1 : ByteArray) (hs : a0.size ≤ 100000) : ∀ (d k i : Nat), i + d = a0.size → d + 1 < k → (a0.data.toList.take i).any badB = false → thwartref06_May.l0 k (i : Int) a0 a1 = some (mayE a0 a1) := by
  intro d
  induction d with
  | zero =>
    intro k i hi hk hn
    obtain ⟨k, rfl⟩ : ∃ m, k = m + 1 + 1 := ⟨k - 2, by omega⟩
    have hn' : a0.data.toList.any badB = false := by rw [List.take_of_length_le (by rw [← szL]; omega)] at hn; exact hn
    rw [thwartref06_May.l0, if_neg (by omega)]
    unfold mayE
    have j : ∀ x, thwartref06_May.j1 (k + 1) x a0 a1 = if x = true then some 3 else if 2000 < a1.size then some 10 else some 0 := by
      intro x
      rw [thwartref06_May.j1]
      by_cases h2 : 2000 < a1.size
      · rw [if_pos (show (a1.size : Int) > 2000 by omega), if_pos h2]
      · rw [if_neg (show ¬ (a1.size : Int) > 2000 by omega), if_neg h2]
    by_cases c1 : a0.size < 1
    · rw [if_pos (by omega), j, if_pos rfl, if_pos (.inr (.inl c1))]
    rw [if_neg (by omega), j]
    by_cases c2 : 60 < a0.size
    · rw [if_pos (decide_eq_true (by omega)), if_pos (.inr (.inr c2))]
    · rw [if_neg (by simp; omega), if_neg (show ¬ (a0.data.toList.any badB = true ∨ a0.size < 1 ∨ 60 < a0.size) from fun h => h.elim (fun h => by rw [hn'] at h; cases h) fun h => h.elim c1 c2)]
      split <;> rfl
  | succ d ih =>
    intro k i hi hk hn
    obtain ⟨k, rfl⟩ : ∃ m, k = m + 1 := ⟨k - 1, by omega⟩
    have hl : i < a0.data.toList.length := by rw [← szL]; omega
    have bad : badB a0.data.toList[i] = true → some 3 = some (mayE a0 a1) := by
      intro hb
      unfold mayE
      rw [if_pos (.inl (List.any_eq_true.2 ⟨_, List.getElem_mem hl, hb⟩))]
    have e1 := bt_eq a0 i hl 61
    have e2 := bt_eq a0 i hl 10
    have e3 := bt_eq a0 i hl 0
    rw [thwartref06_May.l0, if_pos (by omega), if_pos (by omega)]
    by_cases c1 : bt a0 (i : Int) = 61
    · rw [if_pos c1]; exact bad (by rw [e1.1 c1]; rfl)
    rw [if_neg c1]
    by_cases c2 : bt a0 (i : Int) = 10
    · rw [if_pos c2]; exact bad (by rw [e2.1 c2]; rfl)
    rw [if_neg c2]
    by_cases c3 : bt a0 (i : Int) = 0
    · rw [if_pos c3]; exact bad (by rw [e3.1 c3]; rfl)
    rw [if_neg c3, wrap_small (by omega) (by omega), show ((i : Int) + 1) = ((i + 1 : Nat) : Int) by omega]
    refine ih k (i + 1) (by omega) (by omega) ?_
    rw [List.take_succ_eq_append_getElem hl, List.any_append, hn]
    have g1 : ¬ a0.data.toList[i] = 61 := fun e => c1 (e1.2 e)
    have g2 : ¬ a0.data.toList[i] = 10 := fun e => c2 (e2.2 e)
    have g3 : ¬ a0.data.toList[i] = 0 := fun e => c3 (e3.2 e)
    simp only [List.any_cons, List.any_nil, Bool.or_false, Bool.false_or, badB]
    rw [beq_eq_false_iff_ne.2 g1, beq_eq_false_iff_ne.2 g2, beq_eq_false_iff_ne.2 g3]; rfl
theorem may_ref (a0 a1 : ByteArray) (hs : a0.size ≤ 100000) (k : Nat) (hk : a0.size + 1 < k) : thwartref06_May.f k a0 a1 = some (mayE a0 a1) := by
  have := may_loop a0 a1 hs a0.size k 0 (by omega) hk (by simp)
  exact this
theorem may_zero (a0 a1 : ByteArray) (h : mayE a0 a1 = 0) : a0.data.toList.any badB = false ∧ 1 ≤ a0.size ∧ a0.size ≤ 60 ∧ a1.size ≤ 2000 := by
  unfold mayE at h
  split at h
  · cases h
  · rename_i c
    split at h
    · cases h
    · refine ⟨?_, ?_, ?_, ?_⟩
      · cases e : a0.data.toList.any badB
        · rfl
        · exact absurd (.inl e) c
      all_goals omega
theorem may_cases (a0 a1 : ByteArray) : mayE a0 a1 = 0 ∨ mayE a0 a1 = 3 ∨ mayE a0 a1 = 10 := by
  unfold mayE; split
  · exact .inr (.inl rfl)
  · split
    · exact .inr (.inr rfl)
    · exact .inl rfl
def T (a0 a1 : ByteArray) : ByteArray := (((((⟨#[32]⟩ : ByteArray) ++ a0) ++ (⟨#[61]⟩ : ByteArray)) ++ a1) ++ (⟨#[10]⟩ : ByteArray))
theorem T_size (a0 a1 : ByteArray) : (T a0 a1).size = a0.size + a1.size + 3 := by
  unfold T
  simp only [ByteArray.size_append]
  show 1 + a0.size + 1 + a1.size + 1 = _
  omega
theorem T_list (a0 a1 : ByteArray) : (T a0 a1).data.toList = 32 :: (a0.data.toList ++ 61 :: (a1.data.toList ++ [10])) := by
  unfold T
  simp only [appL]
  simp
theorem text_is (a0 a1 : ByteArray) (h0 : a0.size ≤ 100000) (h1 : a1.size ≤ 100000) : recs_text.f a0 a1 = some (T a0 a1) := by
  unfold recs_text.f
  have e32 : (⟨#[32]⟩ : ByteArray).size = 1 := rfl
  have e61 : (⟨#[61]⟩ : ByteArray).size = 1 := rfl
  simp only [ByteArray.size_append, e32, e61]
  rw [if_pos (by omega), if_pos (by omega), if_pos (by omega), if_pos (by omega)]
  rfl
theorem len_mine (a0 a1 : ByteArray) (h0 : a0.size ≤ 100000) : recs_Len.f a0 a1 = some (if mayE a0 a1 = 0 then L (a0.size + a1.size + 3) else 0) := by
  unfold recs_Len.f
  rw [show (20 : Nat) = 19 + 1 by rfl, may_mine 19 a0 a1 (by omega), Option.bind_some]
  by_cases c : mayE a0 a1 = 0
  · obtain ⟨_, h2, h3, h4⟩ := may_zero a0 a1 c
    rw [if_pos c, if_pos c, text_is a0 a1 h0 (by omega), Option.bind_some, if_pos (by rw [T_size]; omega), T_size, show 19 + 1 = 17 + 3 by rfl]
    have := len_is 17 ((a0.size : Int) + a1.size + 3) (by omega) (by omega)
    rw [show (((a0.size + a1.size + 3 : Nat)) : Int) = (a0.size : Int) + a1.size + 3 by omega, this]
  · rw [if_neg c, if_neg c]
theorem one_ref (a0 a1 : ByteArray) (hs : a0.size ≤ 100000) (k : Nat) (hk : a0.size + 30 ≤ k) : ∃ b : List Int, thwartref06_One.f k a0 a1 = some (b, mayE a0 a1) ∧ (mayE a0 a1 = 0 → (b.length : Int) = L (a0.size + a1.size + 3)) := by
  unfold thwartref06_One.f
  rw [may_ref a0 a1 hs k (by omega), Option.bind_some]
  by_cases c : mayE a0 a1 = 0
  · obtain ⟨_, h2, h3, h4⟩ := may_zero a0 a1 c
    obtain ⟨b, h5, h6⟩ := one_loop (k - 20) (T a0 a1) (by rw [T_size]; omega) (by rw [T_size]; omega)
    have e32 : (⟨#[32]⟩ : ByteArray).size = 1 := rfl
    have e61 : (⟨#[61]⟩ : ByteArray).size = 1 := rfl
    rw [if_pos c]
    simp only [ByteArray.size_append, e32, e61]
    rw [if_pos (by omega), if_pos (by omega), if_pos (by omega), if_pos (by omega)]
    rw [show k - 20 + 20 = k by omega] at h5
    refine ⟨b, by rw [c]; exact h5, fun _ => ?_⟩
    rw [h6, T_size, show (((a0.size + a1.size + 3 : Nat)) : Int) = (a0.size : Int) + a1.size + 3 by omega]
  · rw [if_neg c]
    exact ⟨[], rfl, fun h => absurd h c⟩
end Go.Proofs.YthjljkdiglpbaaaDoor.Q
