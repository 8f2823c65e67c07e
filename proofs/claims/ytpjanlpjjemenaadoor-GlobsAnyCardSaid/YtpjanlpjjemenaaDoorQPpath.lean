/- Plain facts on paths: the pieces between slashes, names, as the document tells them. -/
import Derived.Test.YtpjanlpjjemenaaDoorHPpath
import Derived.Test.YtpjanlpjjemenaaDoorF59
import Derived.Test.YtpjanlpjjemenaaDoorF40
import Derived.Test.YtpjanlpjjemenaaDoorF37
import Derived.Test.YtpjanlpjjemenaaDoorQLib
namespace Go.Proofs.YtpjanlpjjemenaaDoor.Q5
open Go.RowKit Go.Proofs.YtpjanlpjjemenaaDoor.P Go.Proofs.YtpjanlpjjemenaaDoor.Hand Go.Proofs.YtpjanlpjjemenaaDoor.Q Go.Proofs.YtpjanlpjjemenaaDoorW.PrintWords Go.Proofs.YtpjanlpjjemenaaDoorW.PrintLast
set_option linter.unusedVariables false
set_option linter.unusedSimpArgs false

theorem wrap_id {i : Int} (h0 : -9223372036854775808 ≤ i) (h : i < 9223372036854775808) : wrap64 i = i := by unfold wrap64; omega
/-- No byte of a name is a nought or a slash. -/
def okBytes (l : List UInt8) : Bool := l.all fun b => b != 0 && b != 47
/-- A name, as the document says. -/
def isName (l : List UInt8) : Bool := okBytes l && decide (1 ≤ l.length) && decide (l.length ≤ 60) && (l != [46]) && (l != [46, 46])
theorem bt_at' (s : ByteArray) (i : Nat) (h : i < s.data.toList.length) : bt s (i : Int) = (s.data.toList[i].toNat : Int) := by
  have hs : i < s.size := by rw [Lib.size_eq]; exact h
  rw [← bt_at s (i : Int) (by rw [Int.toNat_natCast]; exact hs)]
  simp only [Int.toNat_natCast]
  have := Lib.data_getElem? s i hs
  rw [List.getElem?_eq_getElem h] at this
  rw [Option.some.inj this]
theorem bt_is (s : ByteArray) (i : Nat) (h : i < s.data.toList.length) (c : UInt8) : bt s (i : Int) = (c.toNat : Int) ↔ s.data.toList[i] = c := by
  rw [bt_at' s i h]
  constructor
  · intro e; exact UInt8.toNat_inj.1 (by omega)
  · intro e; rw [e]
theorem name_loop (s : ByteArray) (hs : s.size ≤ 1000) (d : Nat) : ∀ (k i : Nat), i + d = s.size → d < k → thwartref04_Name.l0 k s i = some (okBytes (s.data.toList.drop i) && decide (1 ≤ s.data.toList.length) && decide (s.data.toList.length ≤ 60) && (s.data.toList != [46]) && (s.data.toList != [46, 46])) := by
  have hl := Lib.size_eq s
  induction d with
  | zero =>
    intro k i h1 h2
    obtain ⟨k, rfl⟩ : ∃ m, k = m + 1 := ⟨k - 1, by omega⟩
    rw [thwartref04_Name.l0, if_neg (by omega), List.drop_eq_nil_of_le (by omega), toL]
    by_cases c1 : (s.size : Int) ≥ 1
    · rw [if_pos c1, decide_eq_true (show 1 ≤ s.data.toList.length by omega)]
      by_cases c2 : (s.size : Int) ≤ 60
      · rw [if_pos c2, decide_eq_true (show s.data.toList.length ≤ 60 by omega)]
        by_cases c3 : s.data.toList = [46]
        · rw [if_pos c3, c3]; rfl
        · rw [if_neg c3, bne_iff_ne.2 c3]; rfl
      · rw [if_neg c2, decide_eq_false (show ¬ s.data.toList.length ≤ 60 by omega)]; rfl
    · rw [if_neg c1, decide_eq_false (show ¬ 1 ≤ s.data.toList.length by omega)]; rfl
  | succ d ih =>
    intro k i h1 h2
    obtain ⟨k, rfl⟩ : ∃ m, k = m + 1 := ⟨k - 1, by omega⟩
    have hi : i < s.data.toList.length := by omega
    have hd : s.data.toList.drop i = s.data.toList[i] :: s.data.toList.drop (i + 1) := List.drop_eq_getElem_cons hi
    have h0 : bt s (i : Int) = 0 ↔ s.data.toList[i] = 0 := bt_is s i hi 0
    have h47 : bt s (i : Int) = 47 ↔ s.data.toList[i] = 47 := bt_is s i hi 47
    rw [thwartref04_Name.l0, if_pos (by omega), if_pos (by omega), wrap_id (i := (i : Int) + 1) (by omega) (by omega), show ((i : Int) + 1) = ((i + 1 : Nat) : Int) by omega, ih k (i + 1) (by omega) (by omega), hd]
    unfold okBytes
    rw [List.all_cons]
    by_cases c0 : s.data.toList[i] = 0
    · rw [if_pos (h0.2 c0), c0]; rfl
    · rw [if_neg (fun h => c0 (h0.1 h))]
      by_cases c47 : s.data.toList[i] = 47
      · rw [if_pos (h47.2 c47), c47]; rfl
      · rw [if_neg (fun h => c47 (h47.1 h)), bne_iff_ne.2 c0, bne_iff_ne.2 c47]; rfl
theorem name_ref (s : ByteArray) (hs : s.size ≤ 1000) (k : Nat) (hk : s.size < k) : thwartref04_Name.f k s = some (isName s.data.toList) := by
  unfold thwartref04_Name.f
  exact name_loop s hs s.size k 0 (by omega) hk
theorem any_is (l chars : List UInt8) : Lib.containsAny l chars = l.any (chars.contains ·) := by
  induction l with
  | nil => rfl
  | cons b l ih =>
    have hg := Lib.indexAny_ge chars l
    unfold Lib.containsAny at ih ⊢
    rw [List.any_cons, ← ih]
    rw [show Lib.indexAny (b :: l) chars = (if chars.contains b = true then 0 else if (Lib.indexAny l chars == -1) = true then -1 else Lib.indexAny l chars + 1) from rfl]
    by_cases h : chars.contains b = true
    · rw [if_pos h, h]; simp
    · rw [if_neg h, Bool.eq_false_iff.2 h, Bool.false_or]
      by_cases h2 : (Lib.indexAny l chars == -1) = true
      · rw [if_pos h2, beq_iff_eq.1 h2]
      · rw [if_neg h2]
        have h3 : ¬ Lib.indexAny l chars = -1 := fun e => h2 (by rw [e]; rfl)
        rw [decide_eq_true (show 0 ≤ Lib.indexAny l chars + 1 by omega), decide_eq_true (show 0 ≤ Lib.indexAny l chars by omega)]
theorem any_ok (l : List UInt8) : (!(Lib.containsAny l [47, 0])) = okBytes l := by
  rw [any_is]
  unfold okBytes
  induction l with
  | nil => rfl
  | cons b l ih =>
    rw [List.any_cons, List.all_cons, ← ih, Bool.not_or]
    congr 1
    by_cases h0 : b = 0
    · subst h0; rfl
    · by_cases h47 : b = 47
      · subst h47; rfl
      · rw [bne_iff_ne.2 h0, bne_iff_ne.2 h47]
        simp [h0, h47]
theorem name_is (s : ByteArray) (hs : s.size ≤ 1000) (k : Nat) (hk : 5 ≤ k) : ppath_Name.f k s = some (isName s.data.toList) := by
  have hl := Lib.size_eq s
  obtain ⟨k, rfl⟩ : ∃ m, k = m + 1 := ⟨k - 1, by omega⟩
  unfold ppath_Name.f
  rw [toL]
  by_cases c0 : s.data.toList = []
  · rw [if_pos c0, ppath_Name.j0, if_pos rfl, c0]; rfl
  · have h1 : 1 ≤ s.data.toList.length := by
      rcases Nat.eq_zero_or_pos s.data.toList.length with h | h
      · exact absurd (List.eq_nil_of_length_eq_zero h) c0
      · exact h
    rw [if_neg c0, ppath_Name.j0, toL]
    unfold isName
    rw [decide_eq_true h1]
    by_cases c60 : (s.size : Int) > 60
    · rw [decide_eq_true c60, if_pos rfl, decide_eq_false (show ¬ s.data.toList.length ≤ 60 by omega)]
      simp
    · rw [decide_eq_false c60, if_neg (by decide), decide_eq_true (show s.data.toList.length ≤ 60 by omega)]
      by_cases c1 : s.data.toList = [46]
      · rw [if_pos c1, c1]; rfl
      · rw [if_neg c1, bne_iff_ne.2 c1]
        by_cases c2 : s.data.toList = [46, 46]
        · rw [if_pos c2, c2]; rfl
        · rw [if_neg c2, bne_iff_ne.2 c2]
          unfold strings_ContainsAny.f
          rw [if_pos ⟨show 2 ≤ 2 by omega, show 2 < 4294967281 by omega, by omega, by decide⟩, Option.bind_some]
          congr 1
          rw [show (⟨#[47, 0]⟩ : ByteArray).data.toList = [47, 0] from rfl, any_ok]
          simp
theorem ext_sz (s : ByteArray) (a b : Nat) (h : b ≤ s.size) : (s.extract a b).size = b - a := by rw [ByteArray.size_extract]; omega
theorem ext_all (s : ByteArray) : s.extract 0 s.size = s := by
  apply ext_list; rw [extL, List.drop_zero, Nat.sub_zero, List.take_of_length_le (by rw [← szL]; omega)]
theorem ext_ext (s : ByteArray) (a b : Nat) (ha : a ≤ s.size) : (s.extract a s.size).extract b (s.extract a s.size).size = s.extract (a + b) s.size := by
  apply ext_list
  have h1 := ext_sz s a s.size (Nat.le_refl _)
  have hl := szL s
  rw [extL, extL, extL, h1]
  rw [List.drop_take, List.take_take, List.drop_drop]
  congr 1
  omega
theorem ext_head (s : ByteArray) (a b : Nat) (hb : a + b ≤ s.size) : (s.extract a s.size).extract 0 b = s.extract a (a + b) := by
  apply ext_list
  have hl := szL s
  rw [extL, extL, extL, List.drop_zero]
  rw [List.take_take]
  congr 1
  omega
theorem cut_loop (s : ByteArray) (hs : s.size ≤ 1000) (d : Nat) : ∀ (k i from_ : Nat) (done : List ByteArray), i + d = s.size → d < k → from_ ≤ i → done.length ≤ from_ → (∀ j, from_ ≤ j → j < i → s.data.toList[j]? ≠ some 47) →
    thwartref04_Cut.l0 k s done from_ i = some (done ++ pieces 47 (s.extract from_ s.size)) := by
  have hl := Lib.size_eq s
  have hsub : ∀ from_ i, from_ ≤ i → i ≤ s.size → (∀ j, from_ ≤ j → j < i → s.data.toList[j]? ≠ some 47) → (47 : UInt8) ∉ (s.data.toList.drop from_).take (i - from_) := by
    intro from_ i h1 h2 hn hm
    obtain ⟨m, hm1, hm2⟩ := List.getElem_of_mem hm
    rw [List.length_take, List.length_drop] at hm1
    rw [List.getElem_take, List.getElem_drop] at hm2
    exact hn (from_ + m) (by omega) (by omega) (by rw [List.getElem?_eq_getElem (by omega), hm2])
  induction d with
  | zero =>
    intro k i from_ done h1 h2 h3 h4 hn
    obtain ⟨k, rfl⟩ : ∃ m, k = m + 1 := ⟨k - 1, by omega⟩
    have hmiss : Lib.indexByte (s.extract from_ s.size).data.toList 47 = -1 := by
      have hno := hsub from_ s.size (by omega) (Nat.le_refl _) (fun j a b => hn j a (by omega))
      have := (index_none (s.extract from_ s.size).data.toList 47).2 (by rw [extL]; exact hno)
      have := Lib.indexByte_ge (s.extract from_ s.size).data.toList 47
      omega
    rw [thwartref04_Cut.l0, if_neg (by omega), if_pos (by omega), if_pos (by omega), if_pos (by omega), Int.toNat_natCast, pieces_miss 47 _ hmiss]
  | succ d ih =>
    intro k i from_ done h1 h2 h3 h4 hn
    obtain ⟨k, rfl⟩ : ∃ m, k = m + 1 := ⟨k - 1, by omega⟩
    have hi : i < s.data.toList.length := by omega
    have h47 : bt s (i : Int) = 47 ↔ s.data.toList[i] = 47 := bt_is s i hi 47
    rw [thwartref04_Cut.l0, if_pos (by omega), if_pos (by omega), wrap_id (i := (i : Int) + 1) (by omega) (by omega), show ((i : Int) + 1) = ((i + 1 : Nat) : Int) by omega]
    by_cases c : s.data.toList[i] = 47
    · rw [if_pos (h47.2 c), if_pos (by omega), if_pos (by omega), if_pos (by omega), if_pos (by omega), Int.toNat_natCast, Int.toNat_natCast]
      rw [ih k (i + 1) (i + 1) _ (by omega) (by omega) (Nat.le_refl _) (by rw [List.length_append]; simp; omega) (fun j a b => by omega)]
      have hidx : Lib.indexByte (s.extract from_ s.size).data.toList 47 = ((i - from_ : Nat) : Int) := by
        have hno := hsub from_ i h3 (by omega) hn
        have hsplit : (s.extract from_ s.size).data.toList = (s.data.toList.drop from_).take (i - from_) ++ 47 :: s.data.toList.drop (i + 1) := by
          rw [extL, List.take_of_length_le (by rw [List.length_drop]; omega)]
          conv => lhs; rw [← List.take_append_drop (i - from_) (s.data.toList.drop from_)]
          rw [List.drop_drop, show from_ + (i - from_) = i by omega, List.drop_eq_getElem_cons hi, c]
        rw [hsplit, index_at _ _ _ hno, List.length_take, List.length_drop]
        congr 1
        omega
      rw [pieces_hit 47 (s.extract from_ s.size) (i - from_) hidx, ext_ext s from_ _ (by omega), ext_head s from_ _ (by omega), show from_ + (i - from_ + 1) = i + 1 by omega, show from_ + (i - from_) = i by omega]
      simp
    · rw [if_neg (fun h => c (h47.1 h))]
      exact ih k (i + 1) from_ done (by omega) (by omega) (by omega) h4 (fun j a b => by
        rcases Nat.lt_or_ge j i with h | h
        · exact hn j a h
        · obtain rfl : j = i := by omega
          rw [List.getElem?_eq_getElem hi]
          intro e; exact c (Option.some.inj e))
theorem cut_is (s : ByteArray) (hs : s.size ≤ 1000) (k : Nat) (hk : s.size < k) : thwartref04_Cut.f k s = some (pieces 47 s) := by
  unfold thwartref04_Cut.f
  have := cut_loop s hs s.size k 0 0 [] (by omega) hk (Nat.le_refl _) (Nat.le_refl _) (fun j a b => by omega)
  rw [ext_all, List.nil_append] at this
  exact this
theorem pieces_size (b : UInt8) : ∀ (n : Nat) (s : ByteArray), s.size ≤ n → ∀ x ∈ pieces b s, x.size ≤ s.size := by
  intro n
  induction n with
  | zero =>
    intro s hs x hx
    have h0 : s.data.toList = [] := List.eq_nil_of_length_eq_zero (by rw [← szL]; omega)
    rw [pieces_miss b s (by rw [h0]; rfl)] at hx
    rw [List.mem_singleton.1 hx]; exact Nat.le_refl _
  | succ n ih =>
    intro s hs x hx
    have hg := Lib.indexByte_ge s.data.toList b
    by_cases h : Lib.indexByte s.data.toList b = -1
    · rw [pieces_miss b s h] at hx
      rw [List.mem_singleton.1 hx]; exact Nat.le_refl _
    · obtain ⟨i, hi⟩ := Int.eq_ofNat_of_zero_le (show 0 ≤ Lib.indexByte s.data.toList b by omega)
      have hlt : i < s.size := by
        have := indexByte_lt s.data.toList b
        rw [hi, ← szL] at this; omega
      rw [pieces_hit b s i hi] at hx
      rcases List.mem_cons.1 hx with rfl | hx
      · rw [ByteArray.size_extract]; omega
      · have h2 := ext_sz s (i + 1) s.size (Nat.le_refl _)
        have := ih (s.extract (i + 1) s.size) (by omega) x hx
        omega
theorem pieces_len (b : UInt8) (s : ByteArray) : (pieces b s).length ≤ s.size + 1 := by
  have h1 := Lib.splitB_all ⟨#[b]⟩ (Nat.le_refl 1) 0 (Lib.countB s ⟨#[b]⟩) s rfl
  have h2 := Lib.countB_le ⟨#[b]⟩ (Nat.le_refl 1) s.size s (Nat.le_refl _)
  unfold pieces
  omega
def allOk (l : List ByteArray) : Bool := l.all fun x => isName x.data.toList
theorem all_is (l : List ByteArray) (h : ∀ x ∈ l, x.size ≤ 1000) : allNames l = some (allOk l) := by
  induction l with
  | nil => rfl
  | cons x l ih =>
    unfold allNames
    rw [name_is x (h x (by simp)) 20 (by omega), Option.bind_some]
    unfold allOk at ih ⊢
    rw [List.all_cons, ih (fun y hy => h y (by simp [hy]))]
    cases isName x.data.toList <;> rfl
/-- A text's names. -/
def partsOf (s : ByteArray) : List ByteArray × Int := if s.size ≤ 300 ∧ allOk (pieces 47 s) = true then (pieces 47 s, 0) else ([], 8)
theorem parts_is (s : ByteArray) : ppath_Parts.f s = some (partsOf s) := by
  unfold ppath_Parts.f partsOf
  by_cases h : 300 < s.size
  · rw [if_pos h, if_neg (by omega)]
  · rw [if_neg h, all_is _ (fun x hx => by have := pieces_size 47 s.size s (Nat.le_refl _) x hx; omega), Option.bind_some]
    by_cases h2 : allOk (pieces 47 s) = true
    · rw [if_pos h2, if_pos ⟨by omega, h2⟩]
    · rw [if_neg h2, if_neg (fun h => h2 h.2)]
theorem parts_loop (l : List ByteArray) (hl : l.length ≤ 1000) (h : ∀ x ∈ l, x.size ≤ 1000) (d : Nat) : ∀ (k i : Nat), i + d = l.length → d + 1002 < k → thwartref04_Parts.l0 k l i = some (if allOk (l.drop i) = true then (l, 0) else ([], 8)) := by
  induction d with
  | zero =>
    intro k i h1 h2
    obtain ⟨k, rfl⟩ : ∃ m, k = m + 1 := ⟨k - 1, by omega⟩
    rw [thwartref04_Parts.l0, if_neg (by omega), List.drop_eq_nil_of_le (by omega)]; rfl
  | succ d ih =>
    intro k i h1 h2
    obtain ⟨k, rfl⟩ : ∃ m, k = m + 1 := ⟨k - 1, by omega⟩
    have hi : i < l.length := by omega
    have hr : rdOf ByteArray.empty l (i : Int) = l[i] := by unfold rdOf; rw [Int.toNat_natCast, List.getD_eq_getElem?_getD, List.getElem?_eq_getElem hi]; rfl
    have hx := h l[i] (List.getElem_mem hi)
    rw [thwartref04_Parts.l0, if_pos (by omega), if_pos (by omega), hr, name_ref _ hx k (by omega), Option.bind_some, wrap_id (i := (i : Int) + 1) (by omega) (by omega), show ((i : Int) + 1) = ((i + 1 : Nat) : Int) by omega, ih k (i + 1) (by omega) (by omega), List.drop_eq_getElem_cons hi]
    unfold allOk
    rw [List.all_cons]
    cases isName l[i].data.toList <;> simp
theorem parts_ref (s : ByteArray) (hs : s.size ≤ 140737488351232) (k : Nat) (hk : 2500 ≤ k) : thwartref04_Parts.f k s = some (partsOf s) := by
  unfold thwartref04_Parts.f partsOf
  by_cases h : (s.size : Int) > 300
  · rw [if_pos h, if_neg (by omega)]
  · have hp := pieces_len 47 s
    rw [if_neg h, cut_is s (by omega) k (by omega), Option.bind_some]
    have := parts_loop (pieces 47 s) (by omega) (fun x hx => by have := pieces_size 47 s.size s (Nat.le_refl _) x hx; omega) (pieces 47 s).length k 0 (by omega) (by omega)
    rw [show ((0 : Nat) : Int) = 0 from rfl, List.drop_zero] at this
    rw [this]
    by_cases h2 : allOk (pieces 47 s) = true
    · rw [if_pos h2, if_pos ⟨by omega, h2⟩]
    · rw [if_neg h2, if_neg (fun h => h2 h.2)]
end Go.Proofs.YtpjanlpjjemenaaDoor.Q5
