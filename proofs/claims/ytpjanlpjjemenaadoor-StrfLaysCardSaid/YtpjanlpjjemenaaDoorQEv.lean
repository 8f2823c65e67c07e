/- Plain facts: loops of the references as functions; what rounds come to. -/
import Derived.Test.YtpjanlpjjemenaaDoorQLib
import Derived.Test.YtpjanlpjjemenaaDoorF62
import Derived.Test.YtpjanlpjjemenaaDoorF16
import Derived.Test.YtpjanlpjjemenaaDoorF18
import Derived.Test.YtpjanlpjjemenaaDoorF21
import Derived.Test.YtpjanlpjjemenaaDoorF19
namespace Go.Proofs.YtpjanlpjjemenaaDoor.Q
open Go.RowKit Go.Proofs.YtpjanlpjjemenaaDoor.P Go.Proofs.YtpjanlpjjemenaaDoor.Hand Go.Proofs.YtpjanlpjjemenaaDoorW.PrintWords Go.Proofs.YtpjanlpjjemenaaDoorW.PrintLast

theorem wrap_small {i : Int} (h0 : 0 ≤ i) (h : i ≤ 4611686018427387904) : wrap64 (i + 1) = i + 1 := by unfold wrap64; omega
theorem bt_get (s : ByteArray) (i : Nat) (h : i < s.data.toList.length) : bt s (i : Int) = (s.data.toList[i].toNat : Int) := by
  unfold bt
  rw [Int.toNat_natCast, dif_pos (by rw [szL]; exact h)]; rfl
theorem bt_zero (s : ByteArray) (i : Nat) (h : i < s.data.toList.length) (c : UInt8) : bt s (i : Int) = (c.toNat : Int) ↔ s.data.toList[i] = c := by
  rw [bt_get s i h]
  constructor
  · intro h; exact UInt8.toNat_inj.1 (by omega)
  · rintro rfl; rfl

/-- Where the first c stands; the end, if there is none. -/
def firstAt (l : List UInt8) (c : UInt8) : Nat := if 0 ≤ Lib.indexByte l c then (Lib.indexByte l c).toNat else l.length
theorem firstAt_le (l : List UInt8) (c : UInt8) : firstAt l c ≤ l.length := by
  unfold firstAt; have := indexByte_lt l c; split <;> omega
theorem firstAt_cons (b : UInt8) (l : List UInt8) (c : UInt8) : firstAt (b :: l) c = if b = c then 0 else firstAt l c + 1 := by
  have hg := Lib.indexByte_ge l c
  have hc : Lib.indexByte (b :: l) c = if (b == c) = true then 0 else if (Lib.indexByte l c == -1) = true then -1 else Lib.indexByte l c + 1 := rfl
  unfold firstAt
  rw [hc]
  by_cases e : b = c
  · subst e; simp
  · have e1 : ¬ (b == c) = true := by simpa using e
    rw [if_neg e, if_neg e1]
    by_cases e2 : (Lib.indexByte l c == -1) = true
    · rw [if_pos e2]; have := beq_iff_eq.1 e2; rw [if_neg (by omega), if_neg (by omega)]; rfl
    · rw [if_neg e2]; have : ¬ Lib.indexByte l c = -1 := fun h => e2 (by simp [h])
      rw [if_pos (by omega), if_pos (by omega)]; omega
theorem aheadOf_first (l : List Int) (c : UInt8) : aheadOf l c = firstAt (Lib.bytesOf l) c := by
  unfold aheadOf firstAt; rw [Lib.bytesOf_length]

theorem zero_loop (s : ByteArray) (hs : s.size ≤ 140737488351232) (d : Nat) : ∀ (k i : Nat), i ≤ s.size → s.size - i = d → d < k → thwartref02_zero.l0 k s (i : Int) = some ((i + firstAt (s.data.toList.drop i) 0 : Nat) : Int) := by
  induction d with
  | zero =>
    intro k i h1 hd hk
    obtain ⟨k, rfl⟩ : ∃ m, k = m + 1 := ⟨k - 1, by omega⟩
    simp only [thwartref02_zero.l0]
    rw [if_neg (by omega), List.drop_of_length_le (by rw [← szL]; omega)]
    have : i = s.size := by omega
    subst this; rfl
  | succ d ih =>
    intro k i h1 hd hk
    obtain ⟨k, rfl⟩ : ∃ m, k = m + 1 := ⟨k - 1, by omega⟩
    have hi : i < s.data.toList.length := by rw [← szL]; omega
    simp only [thwartref02_zero.l0]
    have hz := bt_zero s i hi 0
    rw [show (((0 : UInt8).toNat : Nat) : Int) = 0 from rfl] at hz
    rw [if_pos (by omega), if_pos (by omega), List.drop_eq_getElem_cons hi, firstAt_cons]
    by_cases e : s.data.toList[i] = 0
    · rw [if_pos (hz.2 e), if_pos e]; rfl
    · rw [if_neg (fun h => e (hz.1 h)), if_neg e, wrap_small (by omega) (by omega)]
      have := ih k (i + 1) (by omega) (by omega) (by omega)
      rw [show ((i : Int) + 1) = ((i + 1 : Nat) : Int) by omega, this]
      congr 1; omega
theorem zero_is (s : ByteArray) (hs : s.size ≤ 140737488351232) (k : Nat) (hk : s.size < k) : thwartref02_zero.f k s = some ((firstAt s.data.toList 0 : Nat) : Int) := by
  have := zero_loop s hs s.size k 0 (Nat.zero_le _) (by omega) hk
  simpa [thwartref02_zero.f] using this

theorem same_loop (a : List Int) (hs : a.length ≤ 140737488351232) (d : Nat) : ∀ (k i : Nat), i ≤ a.length → a.length - i = d → d < k → thwartref01_Same.l0 k a a (i : Int) = some true := by
  induction d with
  | zero =>
    intro k i h1 hd hk
    obtain ⟨k, rfl⟩ : ∃ m, k = m + 1 := ⟨k - 1, by omega⟩
    simp only [thwartref01_Same.l0]; rw [if_neg (by omega)]
  | succ d ih =>
    intro k i h1 hd hk
    obtain ⟨k, rfl⟩ : ∃ m, k = m + 1 := ⟨k - 1, by omega⟩
    simp only [thwartref01_Same.l0]
    rw [if_pos (by omega), if_pos (by omega), if_pos (by omega), if_pos trivial, wrap_small (by omega) (by omega)]
    exact ih k (i + 1) (by omega) (by omega) (by omega)
theorem same_self (a : List Int) (hs : a.length ≤ 140737488351232) (k : Nat) (hk : a.length < k) : thwartref01_Same.f k a a = some true := by
  unfold thwartref01_Same.f; rw [if_pos rfl]; exact same_loop a hs a.length k 0 (Nat.zero_le _) (by omega) hk

theorem put_loop (s : ByteArray) (hs : s.size ≤ 1000) (d : Nat) : ∀ (k i : Nat) (x : List Int), i ≤ s.size → s.size - i = d → d < k → s.size ≤ x.length → x.take i = (bytesOf s).take i →
    thwartref02_Put.l0 k s x (i : Int) = some ((bytesOf s) ++ x.drop s.size, 0) := by
  have hb : (bytesOf s).length = s.size := bytesOf_length s
  induction d with
  | zero =>
    intro k i x h1 hd hk hx ht
    obtain ⟨k, rfl⟩ : ∃ m, k = m + 1 := ⟨k - 1, by omega⟩
    simp only [thwartref02_Put.l0]; rw [if_neg (by omega)]
    have hi : i = s.size := by omega
    subst hi
    rw [List.take_of_length_le (by omega : (bytesOf s).length ≤ s.size)] at ht
    rw [← ht, List.take_append_drop]
  | succ d ih =>
    intro k i x h1 hd hk hx ht
    obtain ⟨k, rfl⟩ : ∃ m, k = m + 1 := ⟨k - 1, by omega⟩
    have hi : i < s.data.toList.length := by rw [← szL]; omega
    simp only [thwartref02_Put.l0]
    rw [if_pos (by omega), if_pos (by omega), if_pos (by omega), wrap_small (by omega) (by omega)]
    have h2 := ih k (i + 1) (x.set i (bt s i)) (by omega) (by omega) (by omega) (by rw [List.length_set]; exact hx) ?_
    · rw [show ((i : Int) + 1) = ((i + 1 : Nat) : Int) by omega, Int.toNat_natCast, h2]
      congr 2
      rw [List.drop_set_of_lt (by omega)]
    · have hbi : (bytesOf s)[i]'(by omega) = bt s i := by rw [bt_get s i hi]; simp [bytesOf]
      rw [List.take_succ_eq_append_getElem (by rw [List.length_set]; omega), List.take_succ_eq_append_getElem (by omega), hbi, List.take_set_of_le (Nat.le_refl _), ht]
      congr 1; simp
end Go.Proofs.YtpjanlpjjemenaaDoor.Q
