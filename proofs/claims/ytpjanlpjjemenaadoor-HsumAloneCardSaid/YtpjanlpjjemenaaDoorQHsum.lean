/- Plain facts on sums of a header: what the printed functions tell, as arithmetic. -/
import Derived.Test.YtpjanlpjjemenaaDoorF26
import Derived.Test.YtpjanlpjjemenaaDoorF66
import Derived.Test.YtpjanlpjjemenaaDoorF90
import Derived.Test.YtpjanlpjjemenaaDoorF30
import Derived.Test.YtpjanlpjjemenaaDoorF32
import Derived.Test.YtpjanlpjjemenaaDoorF34
import Derived.Test.YtpjanlpjjemenaaDoorF25
import Derived.Test.YtpjanlpjjemenaaDoorF24
import Derived.Test.YtpjanlpjjemenaaDoorF19
import Derived.Test.YtpjanlpjjemenaaDoorHHsum
import Derived.Test.YtpjanlpjjemenaaDoorHNumf
import Derived.Test.YtpjanlpjjemenaaDoorHBytes2
import Derived.Laws.BitsAllLaws
namespace Go.Proofs.YtpjanlpjjemenaaDoor.Q3
open Go.RowKit Go.Proofs.YtpjanlpjjemenaaDoor.P Go.Proofs.YtpjanlpjjemenaaDoor.Hand Go.Proofs.YtpjanlpjjemenaaDoorW.PrintWords Go.Proofs.YtpjanlpjjemenaaDoorW.PrintLast Go.Proofs.YtpjanlpjjemenaaDoorW.PrintMore
set_option linter.unusedVariables false
set_option linter.unusedSimpArgs false

def Bytes (l : List Int) : Prop := ∀ x ∈ l, 0 ≤ x ∧ x < 256
theorem Bytes.at {l : List Int} (h : Bytes l) (i : Nat) (hi : i < l.length) : 0 ≤ l[i] ∧ l[i] < 256 := h _ (List.getElem_mem hi)
theorem wrap_id {i : Int} (h0 : -9223372036854775808 ≤ i) (h : i < 9223372036854775808) : wrap64 i = i := by unfold wrap64; omega
theorem rd_at (l : List Int) (i : Nat) (h : i < l.length) : rd l (i : Int) = l[i] := by
  unfold rd; rw [Int.toNat_natCast, List.getD_eq_getElem?_getD, List.getElem?_eq_getElem h]; rfl
theorem drop_sum (l : List Int) (i : Nat) (h : i < l.length) : (l.drop i).sum = l[i] + (l.drop (i + 1)).sum := by
  rw [List.drop_eq_getElem_cons h, List.sum_cons]

theorem l0_is (l : List Int) (hl : l.length = 512) (hb : Bytes l) (d : Nat) : ∀ (k i : Nat) (acc : Int), i + d = 512 → d < k → 0 ≤ acc → acc ≤ 255 * i → hsum_Sum.l0 k l acc i = hsum_Sum.l1 (k - d - 1) l (acc + (l.drop i).sum) 0 := by
  induction d with
  | zero =>
    intro k i acc hi hk h0 h1
    obtain ⟨k, rfl⟩ : ∃ m, k = m + 1 := ⟨k - 1, by omega⟩
    rw [hsum_Sum.l0, if_neg (by omega), List.drop_eq_nil_of_le (by omega)]
    simp
  | succ d ih =>
    intro k i acc hi hk h0 h1
    obtain ⟨k, rfl⟩ : ∃ m, k = m + 1 := ⟨k - 1, by omega⟩
    have hx := hb.at i (by omega)
    rw [hsum_Sum.l0, if_pos (by omega), if_pos (by omega), if_pos (by omega), rd_at l i (by omega), wrap_id (i := l[i]) (by omega) (by omega), wrap_id (by omega) (by omega), wrap_id (by omega) (by omega)]
    have := ih k (i + 1) (acc + l[i]) (by omega) (by omega) (by omega) (by omega)
    rw [show ((i : Int) + 1) = ((i + 1 : Nat) : Int) by omega, this, drop_sum l i (by omega)]
    rw [show k + 1 - (d + 1) - 1 = k - d - 1 by omega]
    congr 1
    omega

theorem l1_is (l : List Int) (hl : l.length = 512) (hb : Bytes l) (d : Nat) : ∀ (k j : Nat) (acc : Int), j + d = 8 → d < k → -300 * j ≤ acc → acc ≤ 130560 + 300 * j → hsum_Sum.l1 k l acc j = some (acc + 32 * d - ((l.drop (148 + j)).take d).sum, 0) := by
  induction d with
  | zero =>
    intro k i acc hi hk h0 h1
    obtain ⟨k, rfl⟩ : ∃ m, k = m + 1 := ⟨k - 1, by omega⟩
    rw [hsum_Sum.l1, if_neg (by omega)]
    simp
  | succ d ih =>
    intro k i acc hi hk h0 h1
    obtain ⟨k, rfl⟩ : ∃ m, k = m + 1 := ⟨k - 1, by omega⟩
    have hx := hb.at (148 + i) (by omega)
    have hw : wrap64 (148 + (i : Int)) = ((148 + i : Nat) : Int) := by rw [wrap_id (by omega) (by omega)]; omega
    rw [hsum_Sum.l1, if_pos (by omega), hw, if_pos (by omega), if_pos (by omega), rd_at l (148 + i) (by omega), wrap_id (i := l[148 + i]) (by omega) (by omega), wrap_id (i := 32 - l[148 + i]) (by omega) (by omega), wrap_id (i := acc + (32 - l[148 + i])) (by omega) (by omega), wrap_id (by omega) (by omega)]
    have := ih k (i + 1) (acc + (32 - l[148 + i])) (by omega) (by omega) (by omega) (by omega)
    rw [show ((i : Int) + 1) = ((i + 1 : Nat) : Int) by omega, this, List.drop_eq_getElem_cons (i := 148 + i) (by omega), List.take_succ_cons, List.sum_cons]
    rw [show 148 + (i + 1) = 148 + i + 1 by omega]
    congr 2
    push_cast
    omega

/-- The sum of a block. -/
def S (l : List Int) : Int := (l.take 148).sum + 256 + (l.drop 156).sum
theorem sum_range (l : List Int) (hb : Bytes l) : 0 ≤ l.sum ∧ l.sum ≤ 255 * l.length := by
  induction l with
  | nil => simp
  | cons x l ih =>
    have h1 := hb x (by simp)
    have h2 := ih (fun y hy => hb y (by simp [hy]))
    rw [List.sum_cons, List.length_cons]
    push_cast
    omega
theorem S_range (l : List Int) (hl : l.length = 512) (hb : Bytes l) : 256 ≤ S l ∧ S l ≤ 130560 := by
  have h1 := sum_range (l.take 148) (fun x hx => hb x (List.mem_of_mem_take hx))
  have h2 := sum_range (l.drop 156) (fun x hx => hb x (List.mem_of_mem_drop hx))
  rw [List.length_take, hl] at h1
  rw [List.length_drop, hl] at h2
  unfold S
  omega
theorem sum_is (l : List Int) (hl : l.length = 512) (hb : Bytes l) (k : Nat) (hk : 600 ≤ k) : hsum_Sum.f k l = some (S l, 0) := by
  unfold hsum_Sum.f
  rw [if_pos (by omega)]
  have h := l0_is l hl hb 512 k 0 0 (by omega) (by omega) (by omega) (by omega)
  have hr := sum_range l hb
  rw [show ((0 : Nat) : Int) = 0 from rfl] at h
  rw [h, List.drop_zero, Int.zero_add]
  have h2 := l1_is l hl hb 8 (k - 512 - 1) 0 l.sum (by omega) (by omega) (by omega) (by omega)
  rw [show ((0 : Nat) : Int) = 0 from rfl] at h2
  rw [h2]
  have e1 : l.sum = (l.take 148).sum + (l.drop 148).sum := by rw [← List.sum_append, List.take_append_drop]
  have e2 : (l.drop 148).sum = ((l.drop 148).take 8).sum + (l.drop 156).sum := by
    rw [show l.drop 156 = (l.drop 148).drop 8 by rw [List.drop_drop], ← List.sum_append, List.take_append_drop]
  have e3 : l.sum + 32 * ((8 : Nat) : Int) - ((l.drop (148 + 0)).take 8).sum = S l := by
    unfold S
    rw [Nat.add_zero]
    omega
  rw [e3]

/-- Six octal digits. -/
def dig (n : Int) : List Int := [48 + n / 32768 % 8, 48 + n / 4096 % 8, 48 + n / 512 % 8, 48 + n / 64 % 8, 48 + n / 8 % 8, 48 + n % 8]
theorem dig_len (n : Int) : (dig n).length = 6 := rfl
theorem dig_bytes (n : Int) : ∀ x ∈ dig n, 48 ≤ x ∧ x ≤ 55 := by
  intro x hx
  simp only [dig, List.mem_cons, List.not_mem_nil, or_false] at hx
  omega
theorem most_is : numf_Most.f 6 = some 262143 := by decide +kernel
set_option maxRecDepth 10000 in
theorem octal_is (n : Int) (h0 : 0 ≤ n) (h1 : n < 262144) : numf_Octal.f 100 n 6 = some (dig n, 0) := by
  unfold numf_Octal.f
  rw [if_neg (by decide), show (decide ((6 : Int) > 20)) = false from rfl, numf_Octal.j0, if_neg (by decide), if_neg (by omega), most_is]
  simp only [Option.bind_some]
  rw [if_neg (by omega), if_pos (by decide), if_pos (by decide)]
  have hs : ∀ (c m : Int), (2 : Int) ^ (min c.toNat 64) = m → shr .i64 n c = n / m := by
    intro c m h; unfold shr; rw [← h]; rfl
  show numf_Octal.l0 99 n 6 [0, 0, 0, 0, 0, 0] 6 0 = some (dig n, 0)
  iterate 6 rw [numf_Octal.l0, if_pos (by decide +kernel), if_pos (by decide +kernel), if_pos (by decide +kernel), if_pos (by (try simp only [List.length_set]); decide +kernel)]
  rw [numf_Octal.l0, if_neg (by decide +kernel)]
  rw [hs _ 32768 (by decide +kernel), hs _ 4096 (by decide +kernel), hs _ 512 (by decide +kernel), hs _ 64 (by decide +kernel), hs _ 8 (by decide +kernel), hs _ 1 (by decide +kernel), Int.ediv_one]
  rw [show wrap64 (0 + 1) = 1 by decide +kernel, show wrap64 (1 + 1) = 2 by decide +kernel, show wrap64 (2 + 1) = 3 by decide +kernel, show wrap64 (3 + 1) = 4 by decide +kernel, show wrap64 (4 + 1) = 5 by decide +kernel]
  rfl

theorem i64_or_small (a b : Nat) (ha : a < 2 ^ 62) (hb : b < 2 ^ 62) : Go.bits .or .i64 (a : Int) (b : Int) = ((a ||| b : Nat) : Int) := by
  have hx : a ||| b < 2 ^ 62 := Nat.or_lt_two_pow ha hb
  show IntKind.i64.wrap ((BitVec.ofInt 64 (a : Int) ||| BitVec.ofInt 64 (b : Int)).toNat : Int) = _
  rw [BitVec.toNat_or, BitVec.ofInt_natCast, BitVec.ofInt_natCast, BitVec.toNat_ofNat, BitVec.toNat_ofNat, Nat.mod_eq_of_lt (by omega), Nat.mod_eq_of_lt (by omega)]
  rw [IntKind.wrap_i64]
  omega
theorem or_digit (m d : Int) (h0 : 0 ≤ m) (h1 : m < 1000000000000) (h2 : 0 ≤ d) (h3 : d < 8) : Go.bits .or .i64 (wrap64 (m * 8)) d = m * 8 + d := by
  rw [wrap_id (by omega) (by omega)]
  obtain ⟨m, rfl⟩ := Int.eq_ofNat_of_zero_le h0
  obtain ⟨d, rfl⟩ := Int.eq_ofNat_of_zero_le h2
  have hd : d < 2 ^ 3 := by omega
  have hor : 2 ^ 3 * m ||| d = 2 ^ 3 * m + d := (Nat.two_pow_add_eq_or_of_lt hd m).symm
  have := i64_or_small (2 ^ 3 * m) d (by omega) (by omega)
  rw [show ((m : Int) * 8) = ((2 ^ 3 * m : Nat) : Int) by push_cast; omega, this, hor]
  push_cast
  omega
theorem octVal_dig (n : Int) (h0 : 0 ≤ n) (h1 : n < 262144) : octVal 0 (dig n) = n := by
  unfold dig
  simp only [octVal]
  rw [show (48 + n / 32768 % 8 - 48) = n / 32768 % 8 by omega, show (48 + n / 4096 % 8 - 48) = n / 4096 % 8 by omega, show (48 + n / 512 % 8 - 48) = n / 512 % 8 by omega, show (48 + n / 64 % 8 - 48) = n / 64 % 8 by omega, show (48 + n / 8 % 8 - 48) = n / 8 % 8 by omega, show (48 + n % 8 - 48) = n % 8 by omega]
  rw [or_digit 0 _ (by omega) (by omega) (by omega) (by omega), or_digit _ (n / 4096 % 8) (by omega) (by omega) (by omega) (by omega), or_digit _ (n / 512 % 8) (by omega) (by omega) (by omega) (by omega), or_digit _ (n / 64 % 8) (by omega) (by omega) (by omega) (by omega), or_digit _ (n / 8 % 8) (by omega) (by omega) (by omega) (by omega), or_digit _ (n % 8) (by omega) (by omega) (by omega) (by omega)]
  omega
theorem octs_dig (n : Int) (l : List Int) : octs (dig n ++ 0 :: l) = 6 := by
  have h := dig_bytes n
  simp only [dig, List.mem_cons, List.not_mem_nil, or_false] at h
  simp only [dig, List.cons_append, List.nil_append, octs]
  rw [if_pos (by omega), if_pos (by omega), if_pos (by omega), if_pos (by omega), if_pos (by omega), if_pos (by omega), if_neg (by omega)]
theorem get_is (n : Int) (h0 : 0 ≤ n) (h1 : n < 262144) : numf_Get.f (dig n ++ [0, 32]) = some (n, 0) := by
  unfold numf_Get.f
  have hb : ∀ x ∈ dig n ++ [0, 32], 0 ≤ x ∧ x < 256 := by
    intro x hx
    rcases List.mem_append.1 hx with hx | hx
    · have := dig_bytes n x hx; omega
    · simp only [List.mem_cons, List.not_mem_nil, or_false] at hx; omega
  have hr : rd (dig n ++ [0, 32]) 0 = 48 + n / 32768 % 8 := rfl
  have hs : skip 32 (dig n ++ [0, 32]) = dig n ++ [0, 32] := by
    simp only [dig, List.cons_append, List.nil_append]
    rw [skip, if_neg (by omega)]
  rw [if_pos (.inl rfl), if_pos hb, hr, if_neg (by omega), hs, octs_dig, if_neg (by decide)]
  rw [List.drop_left' (dig_len n), List.take_left' (dig_len n), octVal_dig n h0 h1]
  rw [if_neg (by decide +kernel)]

/-- A block with its sum. -/
def P (l : List Int) : List Int := l.take 148 ++ (dig (S l) ++ [0, 32]) ++ l.drop 156
theorem P_len (l : List Int) (hl : l.length = 512) : (P l).length = 512 := by
  unfold P; simp only [List.length_append, List.length_take, List.length_drop, dig_len, hl]; rfl
theorem P_bytes (l : List Int) (hb : Bytes l) : Bytes (P l) := by
  intro x hx
  unfold P at hx
  rcases List.mem_append.1 hx with hx | hx
  · rcases List.mem_append.1 hx with hx | hx
    · exact hb x (List.mem_of_mem_take hx)
    · rcases List.mem_append.1 hx with hx | hx
      · have := dig_bytes _ x hx; omega
      · simp only [List.mem_cons, List.not_mem_nil, or_false] at hx; omega
  · exact hb x (List.mem_of_mem_drop hx)
theorem P_take (l : List Int) (hl : l.length = 512) : (P l).take 148 = l.take 148 := by
  unfold P; rw [List.append_assoc, List.take_left' (by rw [List.length_take]; omega)]
theorem P_drop (l : List Int) (hl : l.length = 512) : (P l).drop 156 = l.drop 156 := by
  unfold P; rw [List.drop_left' (by simp only [List.length_append, List.length_take, dig_len, hl]; rfl)]
theorem P_field (l : List Int) (hl : l.length = 512) : ((P l).take 156).drop 148 = dig (S l) ++ [0, 32] := by
  unfold P
  rw [List.take_left' (by simp only [List.length_append, List.length_take, dig_len, hl]; rfl), List.drop_left' (by rw [List.length_take]; omega)]
theorem S_P (l : List Int) (hl : l.length = 512) : S (P l) = S l := by
  unfold S; rw [P_take l hl, P_drop l hl]
theorem put_is (l : List Int) (hl : l.length = 512) (hb : Bytes l) : hsum_Put.f l = some (P l, 0) := by
  have hr := S_range l hl hb
  unfold hsum_Put.f
  rw [sum_is l hl hb 1000 (by omega)]
  simp only [Option.bind_some, if_true]
  rw [octal_is (S l) (by omega) (by omega)]
  simp only [Option.bind_some, if_true]
  rw [if_pos ⟨dig_len _, hl⟩]
  rfl
theorem P_P (l : List Int) (hl : l.length = 512) : P (P l) = P l := by
  show (P l).take 148 ++ (dig (S (P l)) ++ [0, 32]) ++ (P l).drop 156 = P l
  rw [P_take l hl, P_drop l hl, S_P l hl]; rfl
theorem told_is (l : List Int) (n : Int) (hl : l.length = 512) (hf : (l.take 156).drop 148 = dig n ++ [0, 32]) (h0 : 0 ≤ n) (h1 : n < 262144) : hsum_Told.f l = some (n, 0) := by
  unfold hsum_Told.f
  rw [if_pos (by omega), if_pos (by decide), if_pos (by omega), hf, get_is n h0 h1]
  simp only [Option.bind_some, if_true]
  rw [if_neg (by omega), if_neg (by omega)]
theorem check_is (l : List Int) (n : Int) (hl : l.length = 512) (hb : Bytes l) (hf : (l.take 156).drop 148 = dig n ++ [0, 32]) (h0 : 0 ≤ n) (h1 : n < 262144) (k : Nat) (hk : 600 ≤ k) : hsum_Check.f k l = some (if S l = n then 0 else 9) := by
  unfold hsum_Check.f
  rw [told_is l n hl hf h0 h1]
  simp only [Option.bind_some, if_true]
  rw [sum_is l hl hb k hk]
  simp only [Option.bind_some, if_true]
  split <;> rfl

theorem block_loop (l : List Int) (hb : Bytes l) (d : Nat) : ∀ (k i : Nat) (x : List Int), i + d = 512 → d < k → x.length = 512 → Bytes x → ∃ r, thwartlaw03_block.l0 k l x 512 i = some r ∧ r.length = 512 ∧ Bytes r := by
  induction d with
  | zero =>
    intro k i x hi hk hx hbx
    obtain ⟨k, rfl⟩ : ∃ m, k = m + 1 := ⟨k - 1, by omega⟩
    rw [thwartlaw03_block.l0, if_neg (by omega)]
    exact ⟨x, rfl, hx, hbx⟩
  | succ d ih =>
    intro k i x hi hk hx hbx
    obtain ⟨k, rfl⟩ : ∃ m, k = m + 1 := ⟨k - 1, by omega⟩
    rw [thwartlaw03_block.l0, if_pos (by omega), wrap_id (i := (i : Int) + 1) (by omega) (by omega), show ((i : Int) + 1) = ((i + 1 : Nat) : Int) by omega]
    by_cases hl : (l.length : Int) > 0
    · have hm : Int.tmod (i : Int) (l.length : Int) = ((i % l.length : Nat) : Int) := rfl
      have hlt : i % l.length < l.length := Nat.mod_lt _ (by omega)
      rw [if_pos hl, if_neg (by omega), hm, if_pos (by omega), if_pos (by omega), if_pos (by omega), if_pos (by omega), rd_at _ _ hlt]
      refine ih k (i + 1) _ (by omega) (by omega) (by rw [List.length_set]; exact hx) (fun y hy => ?_)
      rcases List.mem_or_eq_of_mem_set hy with h | h
      · exact hbx y h
      · rw [h]; exact hb.at _ hlt
    · rw [if_neg hl]
      exact ih k (i + 1) x (by omega) (by omega) hx hbx
theorem block_is (l : List Int) (hb : Bytes l) (k : Nat) (hk : 600 ≤ k) : ∃ r, thwartlaw03_block.f k l = some r ∧ r.length = 512 ∧ Bytes r := by
  unfold thwartlaw03_block.f
  rw [if_pos (by decide), Option.bind_some, List.length_replicate]
  exact block_loop l hb 512 k 0 _ rfl (by omega) (by rw [List.length_replicate]) (fun x hx => by rw [List.eq_of_mem_replicate hx]; omega)

theorem same_loop (a : List Int) (hs : a.length ≤ 140737488351232) (d : Nat) : ∀ (k i : Nat), i ≤ a.length → a.length - i = d → d < k → thwartref01_Same.l0 k a a (i : Int) = some true := by
  induction d with
  | zero =>
    intro k i h1 h2 h3
    obtain ⟨k, rfl⟩ : ∃ m, k = m + 1 := ⟨k - 1, by omega⟩
    rw [thwartref01_Same.l0, if_neg (by omega)]
  | succ d ih =>
    intro k i h1 h2 h3
    obtain ⟨k, rfl⟩ : ∃ m, k = m + 1 := ⟨k - 1, by omega⟩
    rw [thwartref01_Same.l0, if_pos (by omega), if_pos (by omega), if_pos (by omega), if_pos rfl, wrap_id (by omega) (by omega), show ((i : Int) + 1) = ((i + 1 : Nat) : Int) by omega]
    exact ih k (i + 1) (by omega) (by omega) (by omega)
theorem same_self (a : List Int) (hs : a.length ≤ 140737488351232) (k : Nat) (hk : a.length < k) : thwartref01_Same.f k a a = some true := by
  unfold thwartref01_Same.f
  rw [if_pos rfl]
  exact same_loop a hs a.length k 0 (by omega) (by omega) hk
set_option maxRecDepth 100000 in
theorem alive_is : thwartlaw03_alive.f 600 = some true := by decide +kernel
end Go.Proofs.YtpjanlpjjemenaaDoor.Q3
