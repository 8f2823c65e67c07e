/- Plain facts on paths, on: parents, bases, what lies under another path, which of two is ahead. -/
import Derived.Test.YtpjanlpjjemenaaDoorQPpath
import Derived.Test.YtpjanlpjjemenaaDoorHStr2
import Derived.Test.YtpjanlpjjemenaaDoorHLess
import Derived.Test.YtpjanlpjjemenaaDoorF78
import Derived.Test.YtpjanlpjjemenaaDoorF43
import Derived.Test.YtpjanlpjjemenaaDoorF47
import Derived.Test.YtpjanlpjjemenaaDoorF44
import Derived.Test.YtpjanlpjjemenaaDoorF51
import Derived.Test.YtpjanlpjjemenaaDoorF49
import Derived.Test.YtpjanlpjjemenaaDoorF46
import Derived.Test.YtpjanlpjjemenaaDoorF48
import Derived.Test.YtpjanlpjjemenaaDoorF45
import Derived.Test.YtpjanlpjjemenaaDoorF50
namespace Go.Proofs.YtpjanlpjjemenaaDoor.Q5
open Go.RowKit Go.Proofs.YtpjanlpjjemenaaDoor.P Go.Proofs.YtpjanlpjjemenaaDoor.Hand Go.Proofs.YtpjanlpjjemenaaDoor.Q Go.Proofs.YtpjanlpjjemenaaDoorW.PrintWords Go.Proofs.YtpjanlpjjemenaaDoorW.PrintLast Go.Proofs.YtpjanlpjjemenaaDoorW.PrintMore
set_option linter.unusedVariables false
set_option linter.unusedSimpArgs false

/-! ### The pieces, on lists -/
def pl : List UInt8 → List (List UInt8)
  | [] => [[]]
  | c :: l => if c = 47 then [] :: pl l else match pl l with
    | [] => [[c]]
    | h :: t => (c :: h) :: t
theorem pl_ne (l : List UInt8) : pl l ≠ [] := by
  cases l with
  | nil => simp [pl]
  | cons c l => unfold pl; split; simp; split <;> simp
theorem pl_one (q : List UInt8) (h : (47 : UInt8) ∉ q) : pl q = [q] := by
  induction q with
  | nil => rfl
  | cons c q ih =>
    rw [List.mem_cons, not_or] at h
    unfold pl
    rw [if_neg (fun e => h.1 e.symm), ih h.2]
theorem pl_app (l q : List UInt8) : pl (l ++ 47 :: q) = pl l ++ pl q := by
  induction l with
  | nil => rw [List.nil_append]; conv => lhs; unfold pl
           rw [if_pos rfl]; rfl
  | cons c l ih =>
    rw [List.cons_append]
    rw [show pl (c :: (l ++ 47 :: q)) = (if c = 47 then [] :: pl (l ++ 47 :: q) else match pl (l ++ 47 :: q) with | [] => [[c]] | h :: t => (c :: h) :: t) from rfl,
      show pl (c :: l) = (if c = 47 then [] :: pl l else match pl l with | [] => [[c]] | h :: t => (c :: h) :: t) from rfl]
    by_cases h : c = 47
    · rw [if_pos h, if_pos h, ih]; rfl
    · rw [if_neg h, if_neg h, ih]
      cases hp : pl l with
      | nil => exact absurd hp (pl_ne l)
      | cons a t => rfl
/-- The pieces joined. -/
def jn : List (List UInt8) → List UInt8
  | [] => []
  | [x] => x
  | x :: y :: l => x ++ 47 :: jn (y :: l)
theorem jn_pl (l : List UInt8) : jn (pl l) = l := by
  induction l with
  | nil => rfl
  | cons c l ih =>
    unfold pl
    by_cases h : c = 47
    · rw [if_pos h]
      cases hp : pl l with
      | nil => exact absurd hp (pl_ne l)
      | cons a t => rw [hp] at ih; simp [jn, ih, h]
    · rw [if_neg h]
      cases hp : pl l with
      | nil => exact absurd hp (pl_ne l)
      | cons a t =>
        rw [hp] at ih
        cases t with
        | nil => simp only [jn] at ih ⊢; rw [ih]
        | cons b t => simp only [jn] at ih ⊢; rw [List.cons_append, ih]
theorem pieces_pl : ∀ (n : Nat) (s : ByteArray), s.size ≤ n → (pieces 47 s).map (fun x => x.data.toList) = pl s.data.toList := by
  intro n
  induction n with
  | zero =>
    intro s hs
    have h0 : s.data.toList = [] := List.eq_nil_of_length_eq_zero (by rw [← szL]; omega)
    rw [pieces_miss 47 s (by rw [h0]; rfl), h0]; simp [h0, pl]
  | succ n ih =>
    intro s hs
    have hg := Lib.indexByte_ge s.data.toList 47
    by_cases h : Lib.indexByte s.data.toList 47 = -1
    · rw [pieces_miss 47 s h, pl_one _ ((index_none _ _).1 (by omega))]; rfl
    · obtain ⟨i, hi⟩ := Int.eq_ofNat_of_zero_le (show 0 ≤ Lib.indexByte s.data.toList 47 by omega)
      obtain ⟨pre, post, e1, e2, e3⟩ := index_some s.data.toList 47 (by omega)
      have hip : i = pre.length := by omega
      have hlen := congrArg List.length e1
      rw [← szL, List.length_append, List.length_cons] at hlen
      rw [pieces_hit 47 s i hi, List.map_cons, ih _ (by rw [ByteArray.size_extract]; omega)]
      have h1 : (s.extract 0 i).data.toList = pre := by rw [extL, e1, List.drop_zero, List.take_left' (by omega)]
      have h2 : (s.extract (i + 1) s.size).data.toList = post := by
        rw [extL, e1, hip, show pre ++ 47 :: post = (pre ++ [47]) ++ post by simp, List.drop_left' (by simp), List.take_of_length_le (by omega)]
      show (s.extract 0 i).data.toList :: pl (s.extract (i + 1) s.size).data.toList = _
      rw [h1, h2, e1, pl_app, pl_one pre e2]; rfl

/-! ### Where the last slash stands -/
theorem data_at (s : ByteArray) (i : Nat) (h : i < s.size) : ((s.data[i]!).toNat : Int) = bt s (i : Int) := by
  have hl : i < s.data.toList.length := by rw [← szL]; exact h
  rw [bt_at' s i hl]
  have : s.data[i]! = s.data.toList[i] := by
    rw [getElem!_pos s.data i (by simpa using hl)]; simp
  rw [this]
theorem last_loop (s : ByteArray) (hs : s.size ≤ 1000) (d : Nat) : ∀ (k i : Nat), i + d = s.size → d < k → thwartref04_last.l0 k s (Lib.lastIdx s 47 i) i = some (Lib.lastIndexByte s 47) := by
  induction d with
  | zero =>
    intro k i h1 h2
    obtain ⟨k, rfl⟩ : ∃ m, k = m + 1 := ⟨k - 1, by omega⟩
    obtain rfl : i = s.size := by omega
    rw [thwartref04_last.l0, if_neg (by omega)]; rfl
  | succ d ih =>
    intro k i h1 h2
    obtain ⟨k, rfl⟩ : ∃ m, k = m + 1 := ⟨k - 1, by omega⟩
    have hd := data_at s i (by omega)
    rw [thwartref04_last.l0, if_pos (by omega), if_pos (by omega), wrap_id (i := (i : Int) + 1) (by omega) (by omega), show ((i : Int) + 1) = ((i + 1 : Nat) : Int) by omega]
    have := ih k (i + 1) (by omega) (by omega)
    by_cases h : bt s (i : Int) = 47
    · rw [if_pos h]
      rw [Lib.lastIdx_hit s 47 i (by rw [hd, h])] at this
      exact this
    · rw [if_neg h]
      rw [Lib.lastIdx_miss s 47 i (by rw [hd]; exact h)] at this
      exact this
theorem last_ref (s : ByteArray) (hs : s.size ≤ 1000) (k : Nat) (hk : s.size < k) : thwartref04_last.f k s = some (Lib.lastIndexByte s 47) := by
  unfold thwartref04_last.f
  exact last_loop s hs s.size k 0 (by omega) hk
theorem last_is (s : ByteArray) (hs : s.size ≤ 1000) : strings_LastIndex.f s ⟨#[47]⟩ = some (Lib.lastIndexByte s 47) := by
  unfold strings_LastIndex.f
  rw [if_pos (by omega)]; rfl
theorem parent_same (s : ByteArray) (hs : s.size ≤ 1000) (k : Nat) (hk : s.size < k) : thwartref04_Parent.f k s = ppath_Parent.f s := by
  unfold thwartref04_Parent.f ppath_Parent.f
  rw [last_ref s hs k hk, last_is s hs]
theorem base_same (s : ByteArray) (hs : s.size ≤ 1000) (k : Nat) (hk : s.size < k) : thwartref04_Base.f k s = ppath_Base.f s := by
  unfold thwartref04_Base.f ppath_Base.f
  rw [last_ref s hs k hk, last_is s hs]
/-- A text's parent and base: there is no slash, or the last one parts it. -/
theorem parent_base (s : ByteArray) (hs : s.size ≤ 1000) : ∃ p b, ppath_Parent.f s = some p ∧ ppath_Base.f s = some b ∧
    ((p.data.toList = [] ∧ b = s ∧ (47 : UInt8) ∉ s.data.toList) ∨ (s.data.toList = p.data.toList ++ 47 :: b.data.toList ∧ (47 : UInt8) ∉ b.data.toList)) := by
  have hl := szL s
  unfold ppath_Parent.f ppath_Base.f
  rw [last_is s hs]
  simp only [Option.bind_some]
  have hat : ∀ j, j < s.size → (((s.data[j]!).toNat : Int) ≠ 47 ↔ s.data.toList[j]? ≠ some 47) := by
    intro j hj
    have hjl : j < s.data.toList.length := by omega
    rw [data_at s j hj, List.getElem?_eq_getElem hjl]
    have h47 : bt s (j : Int) = 47 ↔ s.data.toList[j] = 47 := bt_is s j hjl 47
    constructor
    · intro h e; exact h (h47.2 (Option.some.inj e))
    · intro h e; exact h (by rw [h47.1 e])
  rcases Lib.lastIndexByte_spec s 47 with ⟨h1, hn⟩ | ⟨i, hi, h1, hc, hn⟩
  · rw [h1]
    rw [show mx (-1) 0 = 0 from rfl, if_pos (by decide), if_pos (by omega), show wrap64 (-1 + 1) = 0 from by decide +kernel, if_pos (by decide), if_pos (by omega)]
    refine ⟨_, _, rfl, rfl, .inl ⟨?_, ?_, ?_⟩⟩
    · rw [extL]; simp
    · exact ext_all s
    · intro hm
      obtain ⟨j, hj, e⟩ := List.getElem_of_mem hm
      exact (hat j (by omega)).1 (hn j (by omega)) (by rw [List.getElem?_eq_getElem hj, e])
  · rw [h1]
    rw [show mx (i : Int) 0 = i by unfold mx; rw [if_neg (by omega)], if_pos (by omega), if_pos (by omega), wrap_id (i := (i : Int) + 1) (by omega) (by omega), if_pos (by omega), if_pos (by omega), Int.toNat_natCast, show ((i : Int) + 1).toNat = i + 1 by omega]
    refine ⟨_, _, rfl, rfl, .inr ⟨?_, ?_⟩⟩
    · have hil : i < s.data.toList.length := by omega
      have h47 : bt s (i : Int) = 47 ↔ s.data.toList[i] = 47 := bt_is s i hil 47
      rw [data_at s i hi] at hc
      rw [extL, extL, List.drop_zero, Nat.sub_zero, List.take_of_length_le (l := s.data.toList.drop (i + 1)) (by rw [List.length_drop]; omega), ← h47.1 hc]
      rw [← List.drop_eq_getElem_cons hil, List.take_append_drop]
    · intro hm
      rw [extL] at hm
      obtain ⟨j, hj, e⟩ := List.getElem_of_mem (List.mem_of_mem_take hm)
      rw [List.length_drop] at hj
      rw [List.getElem_drop] at e
      exact (hat (i + 1 + j) (by omega)).1 (hn (i + 1 + j) (by omega) (by omega)) (by rw [List.getElem?_eq_getElem (by omega), e])

/-! ### What lies under another path -/
theorem pre_iff (l t : List UInt8) : Lib.hasPrefix l (t ++ [47]) = true ↔ ∃ r, l = t ++ 47 :: r := by
  unfold Lib.hasPrefix
  rw [List.isPrefixOf_iff_prefix]
  constructor
  · rintro ⟨r, e⟩; exact ⟨r, by rw [← e]; simp⟩
  · rintro ⟨r, e⟩; exact ⟨r, by rw [e]; simp⟩
/-- Rest, told. -/
theorem rest_is (s top : ByteArray) (h1 : s.size ≤ 1000) (h2 : top.size ≤ 1000) : ∃ r, ppath_Rest.f s top = some r ∧
    ((top.data.toList = [] ∧ r = (s, s.data.toList != [])) ∨
     (top.data.toList ≠ [] ∧ ((r.2 = true ∧ s.data.toList = top.data.toList ++ 47 :: r.1.data.toList) ∨ (r = (⟨#[]⟩, false) ∧ ¬ ∃ q, s.data.toList = top.data.toList ++ 47 :: q)))) := by
  unfold ppath_Rest.f
  rw [toL, toL]
  by_cases h0 : top.data.toList = []
  · rw [if_pos h0]; exact ⟨_, rfl, .inl ⟨h0, rfl⟩⟩
  · rw [if_neg h0, if_pos (by omega)]
    unfold strings_CutPrefix.f
    rw [Option.bind_some, appL]
    simp only
    cases hp : Lib.hasPrefix s.data.toList (top.data.toList ++ [47])
    · refine ⟨_, by rw [if_neg (by decide)], .inr ⟨h0, .inr ⟨rfl, fun h => ?_⟩⟩⟩
      rw [(pre_iff _ _).2 h] at hp; cases hp
    · obtain ⟨q, e⟩ := (pre_iff _ _).1 hp
      refine ⟨_, by rw [if_pos rfl], .inr ⟨h0, .inl ⟨rfl, ?_⟩⟩⟩
      unfold Lib.trimPrefix
      rw [if_pos hp, e]
      show _ = top.data.toList ++ 47 :: (List.drop _ _)
      rw [show top.data.toList ++ 47 :: q = (top.data.toList ++ [47]) ++ q by simp, List.drop_left' rfl]
      simp
theorem rest_ref (s top : ByteArray) (h1 : s.size ≤ 1000) (h2 : top.size ≤ 1000) : ∃ r r', ppath_Rest.f s top = some r ∧ thwartref04_Rest.f s top = some r' ∧ r.1.data.toList = r'.1.data.toList ∧ r.2 = r'.2 := by
  obtain ⟨r, hr, hcase⟩ := rest_is s top h1 h2
  have hls := szL s
  have hlt := szL top
  refine ⟨r, ?_⟩
  unfold thwartref04_Rest.f
  rw [toL, toL]
  rcases hcase with ⟨h0, rfl⟩ | ⟨h0, hcase⟩
  · exact ⟨_, hr, by rw [if_pos h0], rfl, rfl⟩
  · rw [if_neg h0]
    rcases hcase with ⟨hr2, e⟩ | ⟨rfl, hno⟩
    · have hlen := congrArg List.length e
      rw [List.length_append, List.length_cons] at hlen
      have hsl : top.size < s.size := by omega
      have hex : (s.extract 0 top.size).data.toList = top.data.toList := by rw [extL, List.drop_zero, e, Nat.sub_zero, List.take_left' (by omega)]
      have h47 : bt s (top.size : Int) = 47 := by
        have := bt_is s top.size (by omega) 47
        refine this.2 ?_
        have h3 : s.data.toList[top.size]? = some 47 := by rw [e, hlt, List.getElem?_append_right (Nat.le_refl _)]; simp
        rw [List.getElem?_eq_getElem (by omega)] at h3
        exact Option.some.inj h3
      rw [if_pos (by omega), if_pos (by omega), if_pos (by omega), toL, Int.toNat_natCast, if_pos hex, if_pos (by omega), if_pos h47, wrap_id (i := (top.size : Int) + 1) (by omega) (by omega), if_pos (by omega), if_pos (by omega), show ((top.size : Int) + 1).toNat = top.size + 1 by omega]
      refine ⟨_, hr, rfl, ?_, hr2⟩
      show _ = (s.extract (top.size + 1) s.size).data.toList
      rw [extL, List.take_of_length_le (by rw [List.length_drop]; omega), e, show top.data.toList ++ 47 :: r.1.data.toList = (top.data.toList ++ [47]) ++ r.1.data.toList by simp, List.drop_left' (by simp)]
    · by_cases hsz : (s.size : Int) > (top.size : Int)
      · rw [if_pos hsz, if_pos (by omega), if_pos (by omega), toL, Int.toNat_natCast]
        by_cases hex : (s.extract 0 top.size).data.toList = top.data.toList
        · rw [if_pos hex, if_pos (by omega)]
          by_cases h47 : bt s (top.size : Int) = 47
          · exfalso
            have hil : top.size < s.data.toList.length := by omega
            have h3 := (bt_is s top.size hil 47).1 h47
            refine hno ⟨s.data.toList.drop (top.size + 1), ?_⟩
            rw [extL, List.drop_zero, Nat.sub_zero] at hex
            rw [← hex, ← h3, ← List.drop_eq_getElem_cons hil, List.take_append_drop]
          · rw [if_neg h47]; exact ⟨_, hr, rfl, rfl, rfl⟩
        · rw [if_neg hex]; exact ⟨_, hr, rfl, rfl, rfl⟩
      · rw [if_neg hsz]; exact ⟨_, hr, rfl, rfl, rfl⟩
/-- Two joined. -/
theorem join_is (a b : ByteArray) (h1 : a.size ≤ 1000) (h2 : b.size ≤ 1000) : ∃ r, ppath_Join.f a b = some r ∧ thwartref04_Join.f a b = some r ∧
    (((a.data.toList = [] ∨ b.data.toList = []) ∧ r.data.toList = a.data.toList ++ b.data.toList) ∨ (a.data.toList ≠ [] ∧ b.data.toList ≠ [] ∧ r.data.toList = a.data.toList ++ 47 :: b.data.toList)) := by
  unfold ppath_Join.f thwartref04_Join.f
  rw [toL, toL]
  by_cases ha : a.data.toList = []
  · rw [if_pos ha, if_pos (by omega)]
    exact ⟨_, rfl, rfl, .inl ⟨.inl ha, appL a b⟩⟩
  · rw [if_neg ha]
    by_cases hb : b.data.toList = []
    · rw [if_pos hb, if_pos (by omega)]
      exact ⟨_, rfl, rfl, .inl ⟨.inr hb, appL a b⟩⟩
    · have hs : (a ++ (⟨#[47]⟩ : ByteArray)).size = a.size + 1 := by rw [szL, appL, List.length_append, ← szL]; rfl
      rw [if_neg hb, if_pos (by omega), if_pos (by rw [hs]; omega)]
      refine ⟨_, rfl, rfl, .inr ⟨ha, hb, ?_⟩⟩
      rw [appL, appL, List.append_assoc]; rfl
end Go.Proofs.YtpjanlpjjemenaaDoor.Q5
