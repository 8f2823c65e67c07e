/- Plain facts on lists of bytes, for the pure statements. -/
import Derived.Test.YtpjanlpjjemenaaDoorHSplit
namespace Go.Proofs.YtpjanlpjjemenaaDoor.Q
open Go.RowKit Go.Proofs.YtpjanlpjjemenaaDoorW.PrintWords Go.Proofs.YtpjanlpjjemenaaDoorW.PrintLast Go.Proofs.YtpjanlpjjemenaaDoorW.PrintMore Go.Proofs.YtpjanlpjjemenaaDoor.Hand

theorem ext_list (a b : ByteArray) (h : a.data.toList = b.data.toList) : a = b := by
  cases a; cases b; simp only [ByteArray.mk.injEq]; exact Array.toList_inj.1 h
theorem toL (s : ByteArray) : s.toList = s.data.toList := Lib.toList_data s
theorem szL (s : ByteArray) : s.size = s.data.toList.length := Lib.size_eq s
theorem extL (s : ByteArray) (a b : Nat) : (s.extract a b).data.toList = (s.data.toList.drop a).take (b - a) := Lib.extract_data s a b
theorem appL (s t : ByteArray) : (s ++ t).data.toList = s.data.toList ++ t.data.toList := by
  rw [ByteArray.data_append, Array.toList_append]
theorem numsL (xs : List Int) : (strOfNums xs).data.toList = Lib.bytesOf xs := rfl
theorem nums_bytes (s : ByteArray) : strOfNums (bytesOf s) = s := by
  apply ext_list
  rw [numsL]
  simp [Lib.bytesOf, bytesOf, List.map_map, Function.comp_def]
theorem bytes_bytes (s : ByteArray) : Lib.bytesOf (bytesOf s) = s.data.toList := by
  simp [Lib.bytesOf, bytesOf, List.map_map, Function.comp_def]

/-- Where a byte first stands. -/
theorem index_none (l : List UInt8) (c : UInt8) : Lib.indexByte l c < 0 ↔ c ∉ l := by
  induction l with
  | nil => simp [Lib.indexByte]
  | cons b l ih =>
    have hg := Lib.indexByte_ge l c
    unfold Lib.indexByte
    by_cases e : (b == c) = true
    · rw [if_pos e]; simp at e; subst e; simp
    · rw [if_neg e]
      have e' : ¬ c = b := fun h => e (by simp [h])
      by_cases e2 : (Lib.indexByte l c == -1) = true
      · rw [if_pos e2]
        have : Lib.indexByte l c < 0 := by have := beq_iff_eq.1 e2; omega
        simp [e', ih.1 this]
      · rw [if_neg e2]
        have h3 : ¬ Lib.indexByte l c < 0 := by have : ¬ Lib.indexByte l c = -1 := fun h => e2 (by simp [h]); omega
        have h4 : c ∈ l := Decidable.byContradiction fun h => h3 (ih.2 h)
        simp [h4]; omega
theorem index_some (l : List UInt8) (c : UInt8) (h : 0 ≤ Lib.indexByte l c) : ∃ pre post, l = pre ++ c :: post ∧ c ∉ pre ∧ (Lib.indexByte l c).toNat = pre.length := by
  induction l with
  | nil => simp [Lib.indexByte] at h
  | cons b l ih =>
    have hg := Lib.indexByte_ge l c
    unfold Lib.indexByte at h ⊢
    by_cases e : (b == c) = true
    · rw [if_pos e]; simp at e; subst e; exact ⟨[], l, rfl, by simp, rfl⟩
    · rw [if_neg e] at h ⊢
      by_cases e2 : (Lib.indexByte l c == -1) = true
      · rw [if_pos e2] at h; omega
      · rw [if_neg e2] at h ⊢
        have h3 : ¬ Lib.indexByte l c = -1 := fun h => e2 (by simp [h])
        obtain ⟨pre, post, h4, h5, h6⟩ := ih (by omega)
        refine ⟨b :: pre, post, by rw [h4]; rfl, ?_, by simp only [List.length_cons]; omega⟩
        simp only [List.mem_cons, not_or]
        exact ⟨fun h => e (by simp [h]), h5⟩
theorem index_at (pre post : List UInt8) (c : UInt8) (h : c ∉ pre) : Lib.indexByte (pre ++ c :: post) c = pre.length := by
  induction pre with
  | nil => simp [Lib.indexByte]
  | cons b l ih =>
    simp only [List.mem_cons, not_or] at h
    have e : ¬ (b == c) = true := fun e => h.1 (by simpa using (beq_iff_eq.1 e).symm)
    show Lib.indexByte (b :: (l ++ c :: post)) c = _
    unfold Lib.indexByte
    rw [if_neg e, ih h.2, if_neg (by rw [beq_iff_eq]; omega)]
    simp

/-- What strf.Split comes to. -/
def Good (p : ByteArray) (r : ByteArray × ByteArray × Bool) : Prop :=
  (r.2.2 = false ∧ r.1 = ⟨#[]⟩ ∧ r.2.1 = ⟨#[]⟩) ∨
  (r.2.2 = true ∧ p.data.toList = r.1.data.toList ++ 47 :: r.2.1.data.toList ∧ r.1.data.toList ≠ [] ∧ r.1.size ≤ 155 ∧ r.2.1.data.toList ≠ [] ∧ r.2.1.size ≤ 100)
theorem splitLoop_good (p : ByteArray) (d : Nat) : ∀ (k j : Nat), j ≤ p.size → p.size - j = d → d < k → ∃ r, splitLoop k p j = some r ∧ Good p r := by
  induction d using Nat.strongRecOn with
  | _ d ih =>
    intro k j hj hd hk
    obtain ⟨k, rfl⟩ : ∃ m, k = m + 1 := ⟨k - 1, by omega⟩
    simp only [splitLoop]
    have hL : (p.extract j p.size).data.toList = p.data.toList.drop j := Lib.extract_to_end p j
    by_cases h0 : Lib.indexByte (p.extract j p.size).data.toList 47 < 0
    · rw [if_pos h0]; exact ⟨_, rfl, .inl ⟨rfl, rfl, rfl⟩⟩
    · rw [if_neg h0]
      obtain ⟨a, b, e1, e2, e3⟩ := index_some _ _ (Int.not_lt.1 h0)
      rw [e3]
      rw [hL] at e1
      have hlen : p.size - j = a.length + 1 + b.length := by
        rw [szL]; have := congrArg List.length e1; simp only [List.length_drop, List.length_append, List.length_cons] at this; omega
      obtain ⟨q, hq⟩ : ∃ q, q = p.data.toList.take j ++ a := ⟨_, rfl⟩
      have hp : p.data.toList = q ++ 47 :: b := by
        rw [hq, List.append_assoc, ← e1, List.take_append_drop]
      have hj2 : q.length = j + a.length := by rw [hq, List.length_append, List.length_take, ← szL]; omega
      have hpre : (p.extract 0 (j + a.length)).data.toList = q := by
        rw [extL, List.drop_zero, Nat.sub_zero, ← hj2, hp, List.take_left' rfl]
      have hnm : (p.extract (j + a.length + 1) p.size).data.toList = b := by
        rw [Lib.extract_to_end, ← hj2, hp, ← List.drop_drop, List.drop_left' rfl]; rfl
      generalize p.extract 0 (j + a.length) = pre at *
      generalize p.extract (j + a.length + 1) p.size = nm at *
      by_cases c1 : 155 < pre.size ∨ nm.toList = []
      · rw [if_pos c1]; exact ⟨_, rfl, .inl ⟨rfl, rfl, rfl⟩⟩
      · rw [if_neg c1]
        by_cases c2 : pre.toList ≠ [] ∧ nm.size ≤ 100
        · rw [if_pos c2]
          refine ⟨_, rfl, .inr ⟨rfl, by rw [hpre, hnm]; exact hp, by rw [← toL]; exact c2.1, Nat.le_of_not_lt fun h => c1 (.inl h), by rw [← toL]; exact fun h => c1 (.inr h), c2.2⟩⟩
        · rw [if_neg c2]
          exact ih (p.size - (j + a.length + 1)) (by omega) k (j + a.length + 1) (by omega) rfl (by omega)
theorem split_good (p : ByteArray) (h : p.size ≤ 140737488351232) : ∃ r, strf_Split.f p = some r ∧ ((r = (⟨#[]⟩, p, true) ∧ p.data.toList ≠ [] ∧ p.size ≤ 100) ∨ ((p.data.toList = [] ∨ 100 < p.size) ∧ Good p r)) := by
  unfold strf_Split.f
  by_cases c : p.toList ≠ [] ∧ p.size ≤ 100
  · rw [if_pos c]; exact ⟨_, rfl, .inl ⟨rfl, by rw [← toL]; exact c.1, c.2⟩⟩
  · rw [if_neg c, if_pos (by omega)]
    obtain ⟨r, h1, h2⟩ := splitLoop_good p p.size (p.size + 2) 0 (Nat.zero_le _) (by omega) (by omega)
    refine ⟨r, h1, .inr ⟨?_, h2⟩⟩
    rw [← toL]
    by_cases e : p.toList = []
    · exact .inl e
    · exact .inr (Nat.lt_of_not_le fun h => c ⟨e, h⟩)
end Go.Proofs.YtpjanlpjjemenaaDoor.Q
