/- Plain facts on records: one record's bytes, and a list's, told by both; a key's value. -/
import Derived.Test.YthjljkdiglpbaaaDoorQRecs2
import Derived.Test.YthjljkdiglpbaaaDoorQRecs0
import Derived.Test.YthjljkdiglpbaaaDoorF15
import Derived.Test.YthjljkdiglpbaaaDoorF13
import Derived.Test.YthjljkdiglpbaaaDoorF14
import Derived.Test.YthjljkdiglpbaaaDoorF12
import Derived.Test.YthjljkdiglpbaaaDoorF17
import Derived.Test.YthjljkdiglpbaaaDoorF20
namespace Go.Proofs.YthjljkdiglpbaaaDoor.Q
open Go.RowKit Go.Proofs.YthjljkdiglpbaaaDoor.P Go.Proofs.YthjljkdiglpbaaaDoorW.PrintWords Go.Proofs.YthjljkdiglpbaaaDoorW.PrintLast Go.Proofs.YthjljkdiglpbaaaDoorW.PrintMore Go.Proofs.YthjljkdiglpbaaaDoor.Hand
set_option linter.unusedVariables false
set_option linter.unusedSimpArgs false

theorem dec_small (u : Nat) (h : u < 10) : Lib.decDigits u = [UInt8.ofNat (48 + u)] := by rw [Lib.decDigits, dif_pos h]
theorem dec_big (u : Nat) (h : ¬ u < 10) : Lib.decDigits u = Lib.decDigits (u / 10) ++ [UInt8.ofNat (48 + u % 10)] := by rw [Lib.decDigits, dif_neg h]
theorem digits_one (k : Nat) (u : Nat) (h : u < 10) : thwartref06_digits.f (k + 1) (u : Int) = some ⟨(Lib.decDigits u).toArray⟩ := by
  rw [thwartref06_digits.f, if_pos (by omega), dec_small u h]
  congr 1
  apply ext_list
  rw [numsL, wrap_id (by omega) (by omega)]
  show [UInt8.ofNat ((48 + (u : Int)) % 256).toNat] = [UInt8.ofNat (48 + u)]
  rw [show ((48 + (u : Int)) % 256).toNat = 48 + u by omega]
theorem digits_list : ∀ (j k u : Nat), u < 10000 → nd u ≤ j → thwartref06_digits.f (k + 1 + j) (u : Int) = some ⟨(Lib.decDigits u).toArray⟩ := by
  intro j
  induction j with
  | zero => intro k u h hj; unfold nd at hj; (repeat' split at hj) <;> omega
  | succ j ih =>
    intro k u h hj
    by_cases h10 : u < 10
    · exact digits_one (k + 1 + j) u h10
    · have hq : Int.tdiv (u : Int) 10 = ((u / 10 : Nat) : Int) := by rw [Int.tdiv_eq_ediv_of_nonneg (by omega)]; omega
      have hm : Int.tmod (u : Int) 10 = ((u % 10 : Nat) : Int) := by rw [Int.tmod_eq_emod_of_nonneg (by omega)]; omega
      have hn : nd (u : Int) = nd ((u / 10 : Nat) : Int) + 1 := by unfold nd; (repeat' split) <;> omega
      have h1 := ih k (u / 10) (by omega) (by omega)
      have h3 := digits_one (k + j) (u % 10) (by omega)
      have l1 := dec_len (u / 10) (by omega)
      have l2 : (Lib.decDigits (u % 10)).length = 1 := by rw [dec_small _ (by omega)]; rfl
      have h5 : nd ((u / 10 : Nat) : Int) ≤ 4 := by unfold nd; (repeat' split) <;> omega
      rw [show k + 1 + (j + 1) = (k + 1 + j) + 1 by omega, thwartref06_digits.f, if_neg (by omega), hq, hm, wrap_id (by omega) (by omega), h1, Option.bind_some, show k + 1 + j = k + j + 1 by omega, h3, Option.bind_some, if_pos (by rw [szL, szL]; simp; omega)]
      congr 1
      apply ext_list
      rw [appL]
      show Lib.decDigits (u / 10) ++ Lib.decDigits (u % 10) = Lib.decDigits u
      rw [dec_big u h10, dec_small (u % 10) (by omega)]
theorem bytesOf_app (s t : ByteArray) : bytesOf (s ++ t) = bytesOf s ++ bytesOf t := by
  unfold bytesOf; rw [appL, List.map_append]
/-- A record's bytes. -/
def B (a0 a1 : ByteArray) : List Int := if mayE a0 a1 = 0 then digL (L (a0.size + a1.size + 3)) ++ bytesOf (T a0 a1) else []
theorem L_bd (r : Int) (h0 : 4 ≤ r) (h : r ≤ 2063) : r + 1 ≤ L r ∧ L r ≤ r + 4 ∧ L r = r + nd (L r) := by
  unfold L nd; (repeat' split) <;> omega
theorem digL_len (n : Int) (h0 : 0 ≤ n) (h : n < 10000) : ((digL n).length : Int) = nd n := by
  unfold digL
  rw [List.length_map, Lib.itoa, if_neg (by omega), dec_len _ (by omega), show ((n.toNat : Nat) : Int) = n by omega]
theorem B_len (a0 a1 : ByteArray) (h : mayE a0 a1 = 0) : ((B a0 a1).length : Int) = L (a0.size + a1.size + 3) := by
  obtain ⟨_, h2, h3, h4⟩ := may_zero a0 a1 h
  have hL := L_bd ((a0.size : Int) + a1.size + 3) (by omega) (by omega)
  unfold B
  rw [if_pos h, List.length_append, bytesOf_length, T_size]
  have := digL_len (L ((a0.size : Int) + a1.size + 3)) (by omega) (by omega)
  omega
theorem B_len0 (a0 a1 : ByteArray) (h : mayE a0 a1 ≠ 0) : B a0 a1 = [] := by unfold B; rw [if_neg h]
theorem B_max (a0 a1 : ByteArray) : (B a0 a1).length ≤ 2070 := by
  by_cases h : mayE a0 a1 = 0
  · obtain ⟨_, h2, h3, h4⟩ := may_zero a0 a1 h
    have hL := L_bd ((a0.size : Int) + a1.size + 3) (by omega) (by omega)
    have := B_len a0 a1 h
    omega
  · rw [B_len0 a0 a1 h]; simp
theorem one_loop_is (k : Nat) (x : ByteArray) (h0 : 4 ≤ x.size) (h : x.size ≤ 2063) : thwartref06_One.l0 (k + 20) x 1 = some (digL (L x.size) ++ bytesOf x, 0) := by
  have step : ∀ (m : Nat) (j : Nat), 1 ≤ j → j ≤ 4 → thwartref06_One.l0 (k + 10 + m + 1) x (j : Int) = (if nd (x.size + j) = j then some (bytesOf (⟨(Lib.decDigits (x.size + j)).toArray⟩ ++ x), 0) else thwartref06_One.l0 (k + 10 + m) x ((j + 1 : Nat) : Int)) := by
    intro m j h1 h2
    have h4 : nd ((x.size + j : Nat) : Int) ≤ 4 := by unfold nd; (repeat' split) <;> omega
    have h5 := digits_list 4 (k + 10 + m - 5) (x.size + j) (by omega) h4
    have h6 := dec_len (x.size + j) (by omega)
    have hd : ((⟨(Lib.decDigits (x.size + j)).toArray⟩ : ByteArray).size : Int) = nd ((x.size : Int) + (j : Int)) := by rw [szL]; exact h6
    rw [thwartref06_One.l0, if_pos (by omega), wrap_id (by omega) (by omega), show k + 10 + m = k + 10 + m - 5 + 1 + 4 by omega, show (x.size : Int) + (j : Int) = ((x.size + j : Nat) : Int) by omega, h5, Option.bind_some, show k + 10 + m - 5 + 1 + 4 = k + 10 + m by omega, show ((x.size + j : Nat) : Int) = (x.size : Int) + (j : Int) by omega, hd]
    have h7 : nd ((x.size : Int) + (j : Int)) ≤ 4 := h4
    by_cases c : nd ((x.size : Int) + (j : Int)) = (j : Int)
    · rw [if_pos c, if_pos c, if_pos (by omega)]
    · rw [if_neg c, if_neg c, wrap_small (by omega) (by omega), show (j : Int) + 1 = ((j + 1 : Nat) : Int) by omega]
  have fin : ∀ j : Nat, L x.size = x.size + j → some (bytesOf (⟨(Lib.decDigits (x.size + j)).toArray⟩ ++ x), (0 : Int)) = some (digL (L x.size) ++ bytesOf x, 0) := by
    intro j h1
    rw [bytesOf_app, h1, show (x.size : Int) + (j : Int) = ((x.size + j : Nat) : Int) by omega]
    unfold digL Lib.itoa
    rw [if_neg (by omega), Int.toNat_natCast]
    rfl
  have b1 := step 9 1 (by omega) (by omega)
  have b2 := step 8 2 (by omega) (by omega)
  have b3 := step 7 3 (by omega) (by omega)
  have b4 := step 6 4 (by omega) (by omega)
  rw [show k + 20 = k + 10 + 9 + 1 by omega, show (1 : Int) = ((1 : Nat) : Int) from rfl, b1]
  by_cases c1 : nd ((x.size : Int) + ((1 : Nat) : Int)) = ((1 : Nat) : Int)
  · rw [if_pos c1]
    exact fin 1 (by rw [show (((1 : Nat)) : Int) = 1 from rfl] at *; rw [nd1] at c1; unfold L; (repeat' split) <;> omega)
  rw [if_neg c1, show k + 10 + 9 = k + 10 + 8 + 1 by omega, show 1 + 1 = 2 from rfl, b2]
  by_cases c2 : nd ((x.size : Int) + ((2 : Nat) : Int)) = ((2 : Nat) : Int)
  · rw [if_pos c2]
    exact fin 2 (by rw [show (((2 : Nat)) : Int) = 2 from rfl] at *; rw [show (((1 : Nat)) : Int) = 1 from rfl] at c1; rw [nd2] at c2; rw [nd1] at c1; unfold L; (repeat' split) <;> omega)
  rw [if_neg c2, show k + 10 + 8 = k + 10 + 7 + 1 by omega, show 2 + 1 = 3 from rfl, b3]
  by_cases c3 : nd ((x.size : Int) + ((3 : Nat) : Int)) = ((3 : Nat) : Int)
  · rw [if_pos c3]
    exact fin 3 (by rw [show (((3 : Nat)) : Int) = 3 from rfl] at *; rw [show (((2 : Nat)) : Int) = 2 from rfl] at c2; rw [nd3] at c3; rw [nd2] at c2; unfold L; (repeat' split) <;> omega)
  rw [if_neg c3, show k + 10 + 7 = k + 10 + 6 + 1 by omega, show 3 + 1 = 4 from rfl, b4]
  rw [show (((1 : Nat)) : Int) = 1 from rfl, nd1] at c1
  rw [show (((2 : Nat)) : Int) = 2 from rfl, nd2] at c2
  rw [show (((3 : Nat)) : Int) = 3 from rfl, nd3] at c3
  have c4 : nd ((x.size : Int) + ((4 : Nat) : Int)) = ((4 : Nat) : Int) := by rw [show (((4 : Nat)) : Int) = 4 from rfl, nd4]; omega
  rw [if_pos c4]
  exact fin 4 (by rw [show (((4 : Nat)) : Int) = 4 from rfl] at *; rw [nd4] at c4; unfold L; (repeat' split) <;> omega)
theorem one_ref_is (a0 a1 : ByteArray) (hs : a0.size ≤ 100000) (k : Nat) (hk : a0.size + 30 ≤ k) : thwartref06_One.f k a0 a1 = some (B a0 a1, mayE a0 a1) := by
  unfold thwartref06_One.f B
  rw [may_ref a0 a1 hs k (by omega), Option.bind_some]
  by_cases c : mayE a0 a1 = 0
  · obtain ⟨_, h2, h3, h4⟩ := may_zero a0 a1 c
    have h5 := one_loop_is (k - 20) (T a0 a1) (by rw [T_size]; omega) (by rw [T_size]; omega)
    have e32 : (⟨#[32]⟩ : ByteArray).size = 1 := rfl
    have e61 : (⟨#[61]⟩ : ByteArray).size = 1 := rfl
    rw [if_pos c, if_pos c]
    simp only [ByteArray.size_append, e32, e61]
    rw [if_pos (by omega), if_pos (by omega), if_pos (by omega), if_pos (by omega)]
    rw [show k - 20 + 20 = k by omega, T_size, show (((a0.size + a1.size + 3 : Nat)) : Int) = (a0.size : Int) + a1.size + 3 by omega] at h5
    rw [c]
    exact h5
  · rw [if_neg c, if_neg c]
theorem one_mine_is (a0 a1 : ByteArray) (hs : a0.size ≤ 100000) : recs_One.f a0 a1 = some (B a0 a1, mayE a0 a1) := by
  unfold recs_One.f B
  rw [show (20 : Nat) = 19 + 1 by rfl, may_mine 19 a0 a1 (by omega), Option.bind_some]
  by_cases c : mayE a0 a1 = 0
  · obtain ⟨_, h2, h3, h4⟩ := may_zero a0 a1 c
    have hL := L_bd ((a0.size : Int) + a1.size + 3) (by omega) (by omega)
    have hd := digL_len (L ((a0.size : Int) + a1.size + 3)) (by omega) (by omega)
    have h4' : nd (L ((a0.size : Int) + a1.size + 3)) ≤ 4 := by unfold nd; (repeat' split) <;> omega
    have hi : (Lib.itoa (L ((a0.size : Int) + a1.size + 3))).length ≤ 100 := by unfold digL at hd; rw [List.length_map] at hd; omega
    rw [if_pos c, if_pos c, len_mine a0 a1 hs, if_pos c, Option.bind_some, text_is a0 a1 (by omega) (by omega), Option.bind_some, if_pos ⟨by omega, by omega, by rw [T_size]; omega, hi⟩, c]
  · rw [if_neg c, if_neg c]

theorem same_list (x : List Int) (hx : x.length ≤ 4611686018427387904) : ∀ (d k i : Nat), i + d = x.length → d < k → thwartref01_Same.l0 k x x (i : Int) = some true := by
  intro d
  induction d with
  | zero =>
    intro k i hi hk
    obtain ⟨k, rfl⟩ : ∃ m, k = m + 1 := ⟨k - 1, by omega⟩
    rw [thwartref01_Same.l0, if_neg (by omega)]
  | succ d ih =>
    intro k i hi hk
    obtain ⟨k, rfl⟩ : ∃ m, k = m + 1 := ⟨k - 1, by omega⟩
    rw [thwartref01_Same.l0, if_pos (by omega), if_pos (by omega), if_pos (by omega), if_pos rfl, wrap_small (by omega) (by omega), show ((i : Int) + 1) = ((i + 1 : Nat) : Int) by omega]
    exact ih k (i + 1) (by omega) (by omega)
theorem Same_self (x : List Int) (hx : x.length ≤ 4611686018427387904) (k : Nat) (hk : x.length < k) : thwartref01_Same.f k x x = some true := by
  unfold thwartref01_Same.f
  rw [if_pos rfl]
  exact same_list x hx x.length k 0 (by omega) hk
def vc (x : SB) : SA := ⟨x.f0, x.f1⟩
theorem rd_B (l : List SB) (i : Nat) (h : i < l.length) : rd_T43 l (i : Int) = l[i] := by
  unfold rd_T43; rw [Int.toNat_natCast, List.getD_eq_getElem?_getD, List.getElem?_eq_getElem h]; rfl
theorem rd_A (l : List SA) (i : Nat) (h : i < l.length) : rd_T45 l (i : Int) = l[i] := by
  unfold rd_T45; rw [Int.toNat_natCast, List.getD_eq_getElem?_getD, List.getElem?_eq_getElem h]; rfl
theorem theirs_loop (l : List SB) (hl : l.length ≤ 1000000) : ∀ (d k i : Nat), i + d = l.length → d < k → thwartlaw06_theirs.l0 k ((l.take i).map vc) l (l.length : Int) (i : Int) = some (l.map vc) := by
  intro d
  induction d with
  | zero =>
    intro k i hi hk
    obtain ⟨k, rfl⟩ : ∃ m, k = m + 1 := ⟨k - 1, by omega⟩
    rw [thwartlaw06_theirs.l0, if_neg (by omega), List.take_of_length_le (by omega)]
  | succ d ih =>
    intro k i hi hk
    obtain ⟨k, rfl⟩ : ∃ m, k = m + 1 := ⟨k - 1, by omega⟩
    have h2 : i < l.length := by omega
    have hs : l.take (i + 1) = l.take i ++ [l[i]] := List.take_succ_eq_append_getElem h2
    have := ih k (i + 1) (by omega) (by omega)
    rw [hs, List.map_append] at this
    rw [thwartlaw06_theirs.l0, if_pos (by omega), if_pos (by omega), if_pos (by omega), if_pos (by rw [List.length_map, List.length_take]; omega), rd_B l i h2, wrap_small (by omega) (by omega), show ((i : Int) + 1) = ((i + 1 : Nat) : Int) by omega]
    exact this
theorem theirs_is (l : List SB) (hl : l.length ≤ 1000000) (k : Nat) (hk : l.length < k) : thwartlaw06_theirs.f k l = some (l.map vc) := by
  have := theirs_loop l hl l.length k 0 (by omega) hk
  simpa [thwartlaw06_theirs.f] using this
/-- All records' bytes, behind some. -/
def layOf : List Int → List SB → List Int × Int
  | acc, [] => (acc, 0)
  | acc, x :: xs => if mayE x.f0 x.f1 = 0 then layOf (acc ++ B x.f0 x.f1) xs else ([], mayE x.f0 x.f1)
def Keys (l : List SB) : Prop := ∀ x ∈ l, x.f0.size ≤ 100000
theorem lay_mine (l : List SB) (hl : l.length ≤ 1000000) (hs : Keys l) : ∀ (d k i : Nat) (acc : List Int), i + d = l.length → d < k → acc.length + 2070 * d < 140737488355328 → recs_Lay.l0 k acc (l.map vc) (l.length : Int) (i : Int) = some (layOf acc (l.drop i)) := by
  intro d
  induction d with
  | zero =>
    intro k i acc hi hk ha
    obtain ⟨k, rfl⟩ : ∃ m, k = m + 1 := ⟨k - 1, by omega⟩
    rw [recs_Lay.l0, if_neg (by omega), List.drop_of_length_le (by omega)]; rfl
  | succ d ih =>
    intro k i acc hi hk ha
    obtain ⟨k, rfl⟩ : ∃ m, k = m + 1 := ⟨k - 1, by omega⟩
    have h2 : i < l.length := by omega
    have hr : rd_T45 (l.map vc) (i : Int) = vc l[i] := by rw [rd_A _ i (by rw [List.length_map]; exact h2)]; simp
    have hB := B_max l[i].f0 l[i].f1
    rw [recs_Lay.l0, if_pos (by omega), if_pos (by omega), if_pos (by rw [List.length_map]; omega), hr, List.drop_eq_getElem_cons h2]
    show (recs_One.f l[i].f0 l[i].f1).bind _ = _
    rw [one_mine_is _ _ (hs _ (List.getElem_mem h2)), Option.bind_some]
    dsimp only [layOf]
    by_cases c : mayE l[i].f0 l[i].f1 = 0
    · rw [if_pos c, if_pos c, if_pos (by omega), wrap_small (by omega) (by omega), show ((i : Int) + 1) = ((i + 1 : Nat) : Int) by omega]
      exact ih k (i + 1) _ (by omega) (by omega) (by rw [List.length_append]; omega)
    · rw [if_neg c, if_neg c]
theorem lay_ref (l : List SB) (hl : l.length ≤ 1000000) (hs : Keys l) (F : Nat) (hF : 100100 ≤ F) : ∀ (d k i : Nat) (acc : List Int), i + d = l.length → d + F < k → acc.length + 2070 * d < 140737488355328 → thwartref06_Lay.l0 k l acc (i : Int) = some (layOf acc (l.drop i)) := by
  intro d
  induction d with
  | zero =>
    intro k i acc hi hk ha
    obtain ⟨k, rfl⟩ : ∃ m, k = m + 1 := ⟨k - 1, by omega⟩
    rw [thwartref06_Lay.l0, if_neg (by omega), List.drop_of_length_le (by omega)]; rfl
  | succ d ih =>
    intro k i acc hi hk ha
    obtain ⟨k, rfl⟩ : ∃ m, k = m + 1 := ⟨k - 1, by omega⟩
    have h2 : i < l.length := by omega
    have hB := B_max l[i].f0 l[i].f1
    have hs2 := hs _ (List.getElem_mem h2)
    rw [thwartref06_Lay.l0, if_pos (by omega), if_pos (by omega), rd_B l i h2, List.drop_eq_getElem_cons h2]
    unfold ref06_One.f
    rw [one_ref_is _ _ hs2 k (by omega), Option.bind_some]
    dsimp only [layOf]
    by_cases c : mayE l[i].f0 l[i].f1 = 0
    · rw [if_pos c, if_pos c, if_pos (by omega), wrap_small (by omega) (by omega), show ((i : Int) + 1) = ((i + 1 : Nat) : Int) by omega]
      exact ih k (i + 1) _ (by omega) (by omega) (by rw [List.length_append]; omega)
    · rw [if_neg c, if_neg c]
theorem Lay_mine (l : List SB) (hl : l.length ≤ 1000000) (hs : Keys l) (k : Nat) (hk : l.length < k) : recs_Lay.f k (l.map vc) = some (layOf [] l) := by
  have := lay_mine l hl hs l.length k 0 [] (by omega) hk (by simp; omega)
  unfold recs_Lay.f
  rw [List.length_map]
  exact this
theorem Lay_ref (l : List SB) (hl : l.length ≤ 1000000) (hs : Keys l) (F : Nat) (hF : 100100 ≤ F) (k : Nat) (hk : l.length + F < k) : thwartref06_Lay.f k l = some (layOf [] l) :=
  lay_ref l hl hs F hF l.length k 0 [] (by omega) hk (by simp; omega)
theorem find_ref (l : List SB) (key : ByteArray) (hl : l.length ≤ 1000000) : ∀ (m k : Nat), m ≤ l.length → m < k → thwartref06_Find.l0 k l key ((m : Int) - 1) = some (lastOf (l.map vc) key m) := by
  intro m
  induction m with
  | zero =>
    intro k hm hk
    obtain ⟨k, rfl⟩ : ∃ q, k = q + 1 := ⟨k - 1, by omega⟩
    rw [thwartref06_Find.l0, if_neg (by omega)]; rfl
  | succ m ih =>
    intro k hm hk
    obtain ⟨k, rfl⟩ : ∃ q, k = q + 1 := ⟨k - 1, by omega⟩
    have h2 : m < l.length := by omega
    have hr : rdS (l.map vc) m = vc l[m] := by
      unfold rdS
      first | (rw [rd_A _ m (by rw [List.length_map]; exact h2)]; simp) | (simp [List.getD_eq_getElem?_getD, h2])
    have e : (((m + 1 : Nat) : Int) - 1) = (m : Int) := by omega
    rw [e, thwartref06_Find.l0, if_pos (by omega), if_pos (by omega), if_pos (by omega), rd_B l m h2, lastOf, hr]
    by_cases c : l[m].f0.toList = key.toList
    · rw [if_pos c, if_pos (show (vc l[m]).f0.toList = key.toList from c)]; rfl
    · rw [if_neg c, if_neg (show ¬ (vc l[m]).f0.toList = key.toList from c), wrap_id (by omega) (by omega)]
      exact ih k (by omega) (by omega)
theorem Find_same (l : List SB) (key : ByteArray) (hl : l.length ≤ 1000000) (k : Nat) (hk : l.length < k) : ∃ v, recs_Find.f (l.map vc) key = some v ∧ thwartref06_Find.f k l key = some v := by
  refine ⟨lastOf (l.map vc) key l.length, ?_, ?_⟩
  · unfold recs_Find.f
    rw [List.length_map, if_pos (by omega)]
  · unfold thwartref06_Find.f
    rw [wrap_id (by omega) (by omega)]
    exact find_ref l key hl l.length k (Nat.le_refl _) hk
theorem far_loop (l : List SB) (y : List SB) (hy : y = l.take 10) (hl : l.length ≤ 9223372036854775807) : ∀ (d k i : Nat), i + d = y.length → d < k → (∀ x ∈ y.take i, x.f0.size ≤ 3000 ∧ x.f1.size ≤ 3000) →
    ∃ b, thwartlaw06_far.l0 k l y (y.length : Int) (i : Int) = some b ∧ (b = false → l.length ≤ 10 ∧ ∀ x ∈ l, x.f0.size ≤ 3000 ∧ x.f1.size ≤ 3000) := by
  have hyl : y.length ≤ 10 := by rw [hy, List.length_take]; omega
  intro d
  induction d with
  | zero =>
    intro k i hi hk ht
    obtain ⟨k, rfl⟩ : ∃ q, k = q + 1 := ⟨k - 1, by omega⟩
    refine ⟨_, by rw [thwartlaw06_far.l0, if_neg (by omega)], fun hb => ?_⟩
    have hl10 : l.length ≤ 10 := by have := of_decide_eq_false hb; omega
    refine ⟨hl10, ?_⟩
    rw [List.take_of_length_le (by omega), hy, List.take_of_length_le hl10] at ht
    exact ht
  | succ d ih =>
    intro k i hi hk ht
    obtain ⟨k, rfl⟩ : ∃ q, k = q + 1 := ⟨k - 1, by omega⟩
    have h2 : i < y.length := by omega
    have hr := rd_B y i h2
    rw [thwartlaw06_far.l0, if_pos (by omega), if_pos (by omega), if_pos (by omega), hr]
    by_cases c1 : (y[i].f0.size : Int) > 3000
    · rw [if_pos c1]; exact ⟨true, rfl, fun h => by cases h⟩
    rw [if_neg c1]
    by_cases c2 : (y[i].f1.size : Int) > 3000
    · rw [if_pos c2]; exact ⟨true, rfl, fun h => by cases h⟩
    rw [if_neg c2, wrap_small (by omega) (by omega), show ((i : Int) + 1) = ((i + 1 : Nat) : Int) by omega]
    refine ih k (i + 1) (by omega) (by omega) ?_
    intro x hx
    rw [List.take_succ_eq_append_getElem h2, List.mem_append] at hx
    rcases hx with hx | hx
    · exact ht x hx
    · obtain rfl := List.mem_singleton.1 hx
      exact ⟨by omega, by omega⟩
theorem far_is (l : List SB) (hl : l.length ≤ 9223372036854775807) (k : Nat) (hk : 11 < k) : ∃ b, thwartlaw06_far.f k l = some b ∧ (b = false → l.length ≤ 10 ∧ ∀ x ∈ l, x.f0.size ≤ 3000 ∧ x.f1.size ≤ 3000) := by
  have hm : (mn (l.length : Int) 10).toNat = min l.length 10 := by unfold mn; split <;> omega
  have hm0 : 0 ≤ mn (l.length : Int) 10 ∧ mn (l.length : Int) 10 ≤ (l.length : Int) := by unfold mn; split <;> omega
  have ht : l.take (min l.length 10) = l.take 10 := by
    by_cases h : l.length ≤ 10
    · rw [List.take_of_length_le (by omega), List.take_of_length_le h]
    · rw [show min l.length 10 = 10 by omega]
  obtain ⟨b, hb, hc⟩ := far_loop l (l.take 10) rfl hl (l.take 10).length k 0 (by omega) (by rw [List.length_take]; omega) (by simp)
  refine ⟨b, ?_, hc⟩
  unfold thwartlaw06_far.f
  rw [if_pos hm0.1, if_pos hm0.2, hm, ht, Option.bind_some]
  exact hb
end Go.Proofs.YthjljkdiglpbaaaDoor.Q
