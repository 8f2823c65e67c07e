/- The pure statement of PpathLess: which of any two texts is ahead, is told as the document says; it is a strict order of all; a parent is ahead of its path. For every three texts. -/
import Derived.Test.YtpjanlpjjemenaaDoorF9
import Derived.Test.YtpjanlpjjemenaaDoorQLess
import Derived.Test.YtpjanlpjjemenaaDoorPurePpathParts
namespace Go.Proofs.YtpjanlpjjemenaaDoor.Pure
open Go.RowKit Go.Proofs.YtpjanlpjjemenaaDoor.P Go.Proofs.YtpjanlpjjemenaaDoor.Hand Go.Proofs.YtpjanlpjjemenaaDoor.Q Go.Proofs.YtpjanlpjjemenaaDoor.Q5 Go.Proofs.YtpjanlpjjemenaaDoorW.PrintWords Go.Proofs.YtpjanlpjjemenaaDoorW.PrintLast
set_option linter.unusedVariables false
set_option linter.unusedSimpArgs false

def lists (l : List ByteArray) : List (List UInt8) := l.map fun x => x.data.toList
theorem rd_at (l : List ByteArray) (i : Nat) (h : i < l.length) : rdOf ByteArray.empty l (i : Int) = l[i] := by
  unfold rdOf; rw [Int.toNat_natCast, List.getD_eq_getElem?_getD, List.getElem?_eq_getElem h]; rfl
theorem lists_drop (l : List ByteArray) (i : Nat) (h : i < l.length) : lists (l.drop i) = l[i].data.toList :: lists (l.drop (i + 1)) := by
  unfold lists; rw [List.drop_eq_getElem_cons h]; rfl
theorem cmp_is (a b : ByteArray) : cmp_Compare_string.f a b = some (if bLt a.data.toList b.data.toList = true then -1 else if bLt b.data.toList a.data.toList = true then 1 else 0) := by
  unfold cmp_Compare_string.f cmp_isNaN_string.f
  simp only [Option.bind_some]
  rw [show (a.toList != a.toList) = false by simp, show (b.toList != b.toList) = false by simp, if_neg (by decide), if_neg (by decide), toL, toL, bytes_lex, bytes_lex]
  unfold bLt
  split
  · rfl
  · split <;> rfl
theorem compare_loop (a b : List ByteArray) (ha : a.length ≤ 1000) (d : Nat) : ∀ (k i : Nat), i + d = a.length → i ≤ b.length → d < k →
    ∃ c, slices_Compare_string_string.l0 k a b a (a.length : Int) i = some c ∧ decide (c < 0) = lexLt bLt (lists (a.drop i)) (lists (b.drop i)) := by
  induction d with
  | zero =>
    intro k i h1 h2 h3
    obtain ⟨k, rfl⟩ : ∃ m, k = m + 1 := ⟨k - 1, by omega⟩
    rw [slices_Compare_string_string.l0, if_neg (by omega), List.drop_eq_nil_of_le (show a.length ≤ i by omega)]
    by_cases h : (a.length : Int) < (b.length : Int)
    · rw [if_pos h]
      refine ⟨_, rfl, ?_⟩
      rw [lists_drop b i (by omega)]; rfl
    · rw [if_neg h]
      refine ⟨_, rfl, ?_⟩
      rw [List.drop_eq_nil_of_le (show b.length ≤ i by omega)]; rfl
  | succ d ih =>
    intro k i h1 h2 h3
    obtain ⟨k, rfl⟩ : ∃ m, k = m + 1 := ⟨k - 1, by omega⟩
    rw [slices_Compare_string_string.l0, if_pos (by omega), if_pos (by omega), if_pos (by omega), lists_drop a i (by omega)]
    by_cases h : (i : Int) ≥ (b.length : Int)
    · rw [if_pos h]
      refine ⟨_, rfl, ?_⟩
      rw [List.drop_eq_nil_of_le (show b.length ≤ i by omega)]; rfl
    · rw [if_neg h, if_pos (by omega), rd_at a i (by omega), rd_at b i (by omega), cmp_is, Option.bind_some, lists_drop b i (by omega), lexLt, wrap_id (i := (i : Int) + 1) (by omega) (by omega), show ((i : Int) + 1) = ((i + 1 : Nat) : Int) by omega]
      by_cases e : a[i].data.toList = b[i].data.toList
      · rw [e, b_strict.irr, if_neg (show ¬ (false = true) by decide), if_neg (show ¬ (false = true) by decide), if_pos rfl, if_pos rfl]
        exact ih k (i + 1) (by omega) (by omega) (by omega)
      · rw [if_neg e]
        by_cases e1 : bLt a[i].data.toList b[i].data.toList = true
        · rw [if_pos e1, if_neg (by decide), e1]; exact ⟨_, rfl, rfl⟩
        · rw [if_neg e1]
          by_cases e2 : bLt b[i].data.toList a[i].data.toList = true
          · rw [if_pos e2, if_neg (by decide), Bool.eq_false_iff.2 e1]; exact ⟨_, rfl, rfl⟩
          · exact absurd (b_strict.tot _ _ (Bool.eq_false_iff.2 e1) (Bool.eq_false_iff.2 e2)) e
theorem less_is (a b : ByteArray) (ha : a.size ≤ 900) (hb : b.size ≤ 900) (k : Nat) (hk : 1000 ≤ k) : ppath_Less.f k a b = some (pLt a.data.toList b.data.toList) := by
  unfold ppath_Less.f strings_Split.f
  rw [if_pos (by omega), if_pos (by omega)]
  show (some (pieces 47 a)).bind (fun x => (some (pieces 47 b)).bind fun y => (slices_Compare_string_string.f k x y).bind fun t => some (decide (t < 0))) = _
  simp only [Option.bind_some]
  unfold slices_Compare_string_string.f
  have hp := pieces_len 47 a
  obtain ⟨c, e1, e2⟩ := compare_loop (pieces 47 a) (pieces 47 b) (by omega) (pieces 47 a).length k 0 (by omega) (by omega) (by omega)
  rw [show ((0 : Nat) : Int) = 0 from rfl] at e1
  rw [e1, Option.bind_some, e2, List.drop_zero, List.drop_zero]
  unfold lists pLt
  rw [pieces_pl a.size a (Nat.le_refl _), pieces_pl b.size b (Nat.le_refl _)]
theorem less_loop (a b : List ByteArray) (ha : a.length ≤ 1000) (d : Nat) : ∀ (k i : Nat), i + d = a.length → i ≤ b.length → d + d + 2 < k →
    thwartref04_Less.l0 k a b i = some (lexLt bLt (lists (a.drop i)) (lists (b.drop i))) := by
  induction d with
  | zero =>
    intro k i h1 h2 h3
    obtain ⟨k, rfl⟩ : ∃ m, k = m + 1 + 1 := ⟨k - 2, by omega⟩
    rw [thwartref04_Less.l0, if_neg (by omega), thwartref04_Less.j1, if_neg (by decide), List.drop_eq_nil_of_le (show a.length ≤ i by omega)]
    by_cases h : (a.length : Int) < (b.length : Int)
    · rw [decide_eq_true h, lists_drop b i (by omega)]; rfl
    · rw [decide_eq_false h, List.drop_eq_nil_of_le (show b.length ≤ i by omega)]; rfl
  | succ d ih =>
    intro k i h1 h2 h3
    obtain ⟨k, rfl⟩ : ∃ m, k = m + 1 + 1 := ⟨k - 2, by omega⟩
    rw [thwartref04_Less.l0, if_pos (by omega), thwartref04_Less.j1, lists_drop a i (by omega)]
    by_cases h : (i : Int) < (b.length : Int)
    · rw [if_pos (decide_eq_true h), if_pos (by omega), if_pos (by omega), if_pos (by omega), rd_at a i (by omega), rd_at b i (by omega), toL, toL, lists_drop b i (by omega), lexLt, wrap_id (i := (i : Int) + 1) (by omega) (by omega), show ((i : Int) + 1) = ((i + 1 : Nat) : Int) by omega, ih k (i + 1) (by omega) (by omega) (by omega), bytes_lex]
      by_cases e : a[i].data.toList = b[i].data.toList
      · rw [if_pos e, if_pos e]
      · rw [if_neg e, if_neg e]; rfl
    · rw [decide_eq_false h, if_neg (by decide), decide_eq_false (show ¬ (a.length : Int) < (b.length : Int) by omega), List.drop_eq_nil_of_le (show b.length ≤ i by omega)]; rfl
theorem less_ref (a b : ByteArray) (ha : a.size ≤ 900) (hb : b.size ≤ 900) (k : Nat) (hk : 2000 ≤ k) : thwartref04_Less.f k a b = some (pLt a.data.toList b.data.toList) := by
  unfold thwartref04_Less.f
  rw [cut_is a (by omega) k (by omega), cut_is b (by omega) k (by omega)]
  simp only [Option.bind_some]
  have hp := pieces_len 47 a
  have := less_loop (pieces 47 a) (pieces 47 b) (by omega) (pieces 47 a).length k 0 (by omega) (by omega) (by omega)
  rw [show ((0 : Nat) : Int) = 0 from rfl] at this
  rw [this, List.drop_zero, List.drop_zero]
  unfold lists pLt
  rw [pieces_pl a.size a (Nat.le_refl _), pieces_pl b.size b (Nat.le_refl _)]
theorem less_end (a : ByteArray) (ha : a.size ≤ 900) (k : Nat) (hk : 2000 ≤ k) : thwartlaw04_PpathLess.j1 k a false = some true := by
  obtain ⟨k, rfl⟩ : ∃ m, k = m + 1 := ⟨k - 1, by omega⟩
  have hal : ((thwartlaw04_alive.f k).bind fun t => some t) = some true := by rw [alive04_k k (by omega)]; rfl
  have hirr : (((ppath_Less.f k a a).bind fun t => if t = true then some false else ((thwartlaw04_alive.f k).bind fun t => some t)) : Option Bool) = some true := by
    rw [less_is a a ha ha k (by omega), Option.bind_some, p_strict.irr, if_neg (by decide), hal]
  obtain ⟨p, b, p1, p2, p3⟩ := parent_base a (by omega)
  rw [thwartlaw04_PpathLess.j1, if_neg (by decide), hirr, p1]
  unfold ppath_May.f
  rw [parts_is]
  simp only [Option.bind_some]
  split
  · split
    · rfl
    · rename_i hp
      rw [toL] at hp
      rcases p3 with ⟨h, _⟩ | ⟨h, _⟩
      · exact absurd h hp
      · have hl := congrArg List.length h
        rw [List.length_append, List.length_cons, ← szL, ← szL] at hl
        rw [less_is p a (by omega) ha k (by omega), Option.bind_some, p_parent _ _ _ h, if_pos rfl]
  · rfl
theorem PpathLess : thwartlaw04_PpathLess.Pure := by
  intro a b c ha hb hc
  refine ⟨3000, ?_⟩
  have hal : ∀ k, 100 ≤ k → ((thwartlaw04_alive.f k).bind fun t => some t) = some true := fun k hk => by rw [alive04_k k hk]; rfl
  unfold thwartlaw04_PpathLess.f
  by_cases h1 : (a.size : Int) > 300
  · rw [if_pos h1, thwartlaw04_PpathLess.j0, if_pos rfl, hal _ (by omega)]
  rw [if_neg h1]
  by_cases h2 : (b.size : Int) > 300
  · rw [if_pos h2, thwartlaw04_PpathLess.j0, if_pos rfl, hal _ (by omega)]
  rw [if_neg h2]
  by_cases h3 : (c.size : Int) > 300
  · rw [decide_eq_true h3, thwartlaw04_PpathLess.j0, if_pos rfl, hal _ (by omega)]
  rw [decide_eq_false h3, thwartlaw04_PpathLess.j0, if_neg (by decide), less_is a b (by omega) (by omega) _ (by omega), less_is b a (by omega) (by omega) _ (by omega), less_is b c (by omega) (by omega) _ (by omega), less_is a c (by omega) (by omega) _ (by omega), less_ref a b (by omega) (by omega) _ (by omega)]
  simp only [Option.bind_some]
  have hend := less_end a (by omega) 2999 (by omega)
  rw [if_neg (show ¬ (pLt a.data.toList b.data.toList != pLt a.data.toList b.data.toList) = true by simp)]
  by_cases c1 : pLt a.data.toList b.data.toList = true
  · rw [if_pos c1, p_strict.asy _ _ c1, if_neg (by decide)]
    by_cases c2 : pLt b.data.toList c.data.toList = true
    · rw [if_pos c2, p_strict.tra _ _ _ c1 c2]; exact hend
    · rw [if_neg c2]; exact hend
  · rw [if_neg c1]
    by_cases c2 : pLt b.data.toList a.data.toList = true
    · rw [if_pos c2]; exact hend
    · rw [if_neg c2, toL, toL, if_pos (p_strict.tot _ _ (Bool.eq_false_iff.2 c1) (Bool.eq_false_iff.2 c2))]; exact hend
end Go.Proofs.YtpjanlpjjemenaaDoor.Pure
