/- Plain facts on records: a number's digits, the least length that tells itself, what may be. -/
import Derived.Test.YthjljkdiglpbaaaDoorF19
import Derived.Test.YthjljkdiglpbaaaDoorF21
import Derived.Test.YthjljkdiglpbaaaDoorHRecs
import Derived.Lib.IndexBytes
namespace Go.Proofs.YthjljkdiglpbaaaDoor.Q
open Go.RowKit Go.Proofs.YthjljkdiglpbaaaDoor.P Go.Proofs.YthjljkdiglpbaaaDoorW.PrintWords Go.Proofs.YthjljkdiglpbaaaDoorW.PrintLast Go.Proofs.YthjljkdiglpbaaaDoorW.PrintMore Go.Proofs.YthjljkdiglpbaaaDoor.Hand
set_option linter.unusedVariables false
set_option linter.unusedSimpArgs false

theorem ext_list (a b : ByteArray) (h : a.data.toList = b.data.toList) : a = b := by
  cases a; cases b; simp only [ByteArray.mk.injEq]; exact Array.toList_inj.1 h
theorem toL (s : ByteArray) : s.toList = s.data.toList := Lib.toList_data s
theorem szL (s : ByteArray) : s.size = s.data.toList.length := Lib.size_eq s
theorem extL (s : ByteArray) (a b : Nat) : (s.extract a b).data.toList = (s.data.toList.drop a).take (b - a) := Lib.extract_data s a b
theorem appL (s t : ByteArray) : (s ++ t).data.toList = s.data.toList ++ t.data.toList := by
  rw [ByteArray.data_append, Array.toList_append]
theorem numsL (xs : List Int) : (strOfNums xs).data.toList = Lib.bytesOf xs := rfl
theorem wrap_id {i : Int} (h0 : -9223372036854775808 ≤ i) (h : i < 9223372036854775808) : wrap64 i = i := by unfold wrap64; omega
theorem wrap_small {i : Int} (h0 : 0 ≤ i) (h : i ≤ 4611686018427387904) : wrap64 (i + 1) = i + 1 := by unfold wrap64; omega
def Bytes (l : List Int) : Prop := ∀ x ∈ l, 0 ≤ x ∧ x < 256
theorem rd_at (l : List Int) (i : Nat) (h : i < l.length) : rd l (i : Int) = l[i] := by
  unfold rd; rw [Int.toNat_natCast, List.getD_eq_getElem?_getD, List.getElem?_eq_getElem h]; rfl
theorem bt_get (s : ByteArray) (i : Nat) (h : i < s.data.toList.length) : bt s (i : Int) = (s.data.toList[i].toNat : Int) := by
  unfold bt
  rw [Int.toNat_natCast, dif_pos (by rw [szL]; exact h)]; rfl
theorem bt_eq (s : ByteArray) (i : Nat) (h : i < s.data.toList.length) (c : UInt8) : bt s (i : Int) = (c.toNat : Int) ↔ s.data.toList[i] = c := by
  rw [bt_get s i h]
  constructor
  · intro h; exact UInt8.toNat_inj.1 (by omega)
  · rintro rfl; rfl

/-- How many digits. -/
def nd (n : Int) : Int := if n < 10 then 1 else if n < 100 then 2 else if n < 1000 then 3 else 4
theorem dec_len (u : Nat) (h : u < 10000) : ((Lib.decDigits u).length : Int) = nd u := by
  unfold nd
  rw [Lib.decDigits]
  split
  · rw [if_pos (by omega)]; rfl
  · rw [Lib.decDigits]
    split
    · rw [if_neg (by omega), if_pos (by omega)]; rfl
    · rw [Lib.decDigits]
      split
      · rw [if_neg (by omega), if_neg (by omega), if_pos (by omega)]; rfl
      · rw [Lib.decDigits]
        split
        · rw [if_neg (by omega), if_neg (by omega), if_neg (by omega)]; rfl
        · omega
theorem digs_is (n : Int) (h0 : 0 ≤ n) (h : n < 10000) : digs n = nd n := by
  unfold digs
  rw [szL, Lib.itoa, if_neg (by omega), dec_len _ (by omega), show ((n.toNat : Nat) : Int) = n by omega]
theorem digits_step (k : Nat) (n : Int) (h0 : 0 ≤ n) (h : n < 10) : ∃ t, thwartref06_digits.f (k + 1) n = some t ∧ t.size = 1 := by
  refine ⟨_, by rw [thwartref06_digits.f, if_pos (by omega)], ?_⟩
  rw [szL, numsL]; rfl
theorem digits_is : ∀ (j k : Nat) (n : Int), 0 ≤ n → n < 10000 → nd n ≤ j → ∃ t, thwartref06_digits.f (k + 1 + j) n = some t ∧ (t.size : Int) = nd n := by
  intro j
  induction j with
  | zero => intro k n h0 h hj; unfold nd at hj; (repeat' split at hj) <;> omega
  | succ j ih =>
    intro k n h0 h hj
    by_cases h10 : n < 10
    · obtain ⟨t, h1, h2⟩ := digits_step (k + 1 + j) n h0 h10
      exact ⟨t, h1, by rw [h2]; unfold nd; rw [if_pos h10]; rfl⟩
    · have hq : Int.tdiv n 10 = n / 10 := Int.tdiv_eq_ediv_of_nonneg h0
      have hm : Int.tmod n 10 = n % 10 := Int.tmod_eq_emod_of_nonneg h0
      have hn : nd n = nd (n / 10) + 1 := by unfold nd; (repeat' split) <;> omega
      obtain ⟨t, h1, h2⟩ := ih k (n / 10) (by omega) (by omega) (by omega)
      obtain ⟨s, h3, h4⟩ := digits_step (k + j) (n % 10) (by omega) (by omega)
      have h5 : nd (n / 10) ≤ 4 := by unfold nd; (repeat' split) <;> omega
      refine ⟨t ++ s, ?_, ?_⟩
      · rw [show k + 1 + (j + 1) = (k + 1 + j) + 1 by omega, thwartref06_digits.f, if_neg h10, hq, hm, wrap_id (by omega) (by omega), h1, Option.bind_some, show k + 1 + j = k + j + 1 by omega, h3, Option.bind_some, if_pos (by omega)]
      · rw [ByteArray.size_append, hn]; omega
theorem nd1 (n : Int) : nd n = 1 ↔ n < 10 := by unfold nd; (repeat' split) <;> omega
theorem nd2 (n : Int) : nd n = 2 ↔ 10 ≤ n ∧ n < 100 := by unfold nd; (repeat' split) <;> omega
theorem nd3 (n : Int) : nd n = 3 ↔ 100 ≤ n ∧ n < 1000 := by unfold nd; (repeat' split) <;> omega
theorem nd4 (n : Int) : nd n = 4 ↔ 1000 ≤ n := by unfold nd; (repeat' split) <;> omega
/-- The length that tells itself. -/
def L (r : Int) : Int := if r + 1 < 10 then r + 1 else if r + 2 < 100 then r + 2 else if r + 3 < 1000 then r + 3 else r + 4
theorem lenLoop_go (k : Nat) (r m d : Int) (h0 : 0 ≤ m) (h : m < 10000) (hr : 0 ≤ r) (hr2 : r < 10000) (hd : nd m = d) : lenLoop (k + 1) r m = if r + d = m then some m else lenLoop k r (r + d) := by
  have h4 : 1 ≤ nd m ∧ nd m ≤ 4 := by unfold nd; (repeat' split) <;> omega
  rw [lenLoop, digs_is m h0 h, wrap_id (by omega) (by omega), hd]
theorem len_is (k : Nat) (r : Int) (h0 : 4 ≤ r) (h : r ≤ 2063) : lenLoop (k + 3) r r = some (L r) := by
  have go : ∀ d : Int, nd r = d → ∀ e : Int, nd (r + d) = e → (e = d ∨ (e = d + 1 ∧ nd (r + e) = e)) → lenLoop (k + 3) r r = some (r + e) := by
    intro d hd e he hc
    have hd4 : 1 ≤ d ∧ d ≤ 4 := by rw [← hd]; unfold nd; (repeat' split) <;> omega
    rw [lenLoop_go (k + 2) r r d (by omega) (by omega) (by omega) (by omega) hd, if_neg (by omega), lenLoop_go (k + 1) r (r + d) e (by omega) (by omega) (by omega) (by omega) he]
    rcases hc with rfl | ⟨h1, h2⟩
    · rw [if_pos rfl]
    · rw [if_neg (by omega), lenLoop_go k r (r + e) e (by omega) (by omega) (by omega) (by omega) h2, if_pos rfl]
  have hL : ∃ d e : Int, nd r = d ∧ nd (r + d) = e ∧ (e = d ∨ (e = d + 1 ∧ nd (r + e) = e)) ∧ L r = r + e := by
    refine ⟨nd r, nd (r + nd r), rfl, rfl, ?_, ?_⟩
    · unfold nd; (repeat' split) <;> omega
    · unfold nd L; (repeat' split) <;> omega
  obtain ⟨d, e, h1, h2, h3, h4⟩ := hL
  rw [go d h1 e h2 h3, h4]

theorem one_loop (k : Nat) (x : ByteArray) (h0 : 4 ≤ x.size) (h : x.size ≤ 2063) : ∃ b : List Int, thwartref06_One.l0 (k + 20) x 1 = some (b, 0) ∧ (b.length : Int) = L x.size := by
  have step : ∀ (m : Nat) (j : Int), 1 ≤ j → j ≤ 4 → ∃ t : ByteArray, (t.size : Int) = nd (x.size + j) ∧ thwartref06_One.l0 (k + 10 + m + 1) x j = (if nd (x.size + j) = j then some (bytesOf (t ++ x), 0) else thwartref06_One.l0 (k + 10 + m) x (j + 1)) := by
    intro m j h1 h2
    have h4 : nd (x.size + j) ≤ 4 := by unfold nd; (repeat' split) <;> omega
    obtain ⟨t, h5, h6⟩ := digits_is 4 (k + 10 + m - 5) ((x.size : Int) + j) (by omega) (by omega) h4
    refine ⟨t, h6, ?_⟩
    rw [thwartref06_One.l0, if_pos h2, wrap_id (by omega) (by omega), show k + 10 + m = k + 10 + m - 5 + 1 + 4 by omega, h5, Option.bind_some, h6, show k + 10 + m - 5 + 1 + 4 = k + 10 + m by omega, wrap_small (by omega) (by omega), if_pos (by omega : t.size + x.size ≤ 9223372036854775807)]
  have fin : ∀ (t : ByteArray) (j : Int), (t.size : Int) = nd (x.size + j) → nd (x.size + j) = j → ((bytesOf (t ++ x)).length : Int) = x.size + j := by
    intro t j h1 h2
    rw [bytesOf_length, ByteArray.size_append]; omega
  obtain ⟨t1, a1, b1⟩ := step 9 1 (by omega) (by omega)
  obtain ⟨t2, a2, b2⟩ := step 8 2 (by omega) (by omega)
  obtain ⟨t3, a3, b3⟩ := step 7 3 (by omega) (by omega)
  obtain ⟨t4, a4, b4⟩ := step 6 4 (by omega) (by omega)
  rw [show k + 20 = k + 10 + 9 + 1 by omega, b1]
  by_cases c1 : nd (x.size + 1) = 1
  · rw [if_pos c1]
    exact ⟨_, rfl, by rw [fin t1 1 a1 c1]; rw [nd1] at c1; unfold L; (repeat' split) <;> omega⟩
  rw [if_neg c1, show k + 10 + 9 = k + 10 + 8 + 1 by omega, show (1 : Int) + 1 = 2 by rfl, b2]
  by_cases c2 : nd (x.size + 2) = 2
  · rw [if_pos c2]
    exact ⟨_, rfl, by rw [fin t2 2 a2 c2]; rw [nd2] at c2; rw [nd1] at c1; unfold L; (repeat' split) <;> omega⟩
  rw [if_neg c2, show k + 10 + 8 = k + 10 + 7 + 1 by omega, show (2 : Int) + 1 = 3 by rfl, b3]
  by_cases c3 : nd (x.size + 3) = 3
  · rw [if_pos c3]
    exact ⟨_, rfl, by rw [fin t3 3 a3 c3]; rw [nd3] at c3; rw [nd2] at c2; unfold L; (repeat' split) <;> omega⟩
  rw [if_neg c3, show k + 10 + 7 = k + 10 + 6 + 1 by omega, show (3 : Int) + 1 = 4 by rfl, b4]
  have c4 : nd (x.size + 4) = 4 := by rw [nd1] at c1; rw [nd2] at c2; rw [nd3] at c3; rw [nd4]; omega
  rw [if_pos c4]
  exact ⟨_, rfl, by rw [fin t4 4 a4 c4]; rw [nd4] at c4; rw [nd3] at c3; unfold L; (repeat' split) <;> omega⟩
end Go.Proofs.YthjljkdiglpbaaaDoor.Q
