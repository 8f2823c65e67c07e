/- Plain facts on numbers of headers: numf.Get answers as the document's Get, for every field. -/
import Derived.Test.YtpjanlpjjemenaaDoorHNumf
import Derived.Test.YtpjanlpjjemenaaDoorF95
import Derived.Test.YtpjanlpjjemenaaDoorF70
import Derived.Test.YtpjanlpjjemenaaDoorF97
import Derived.Test.YtpjanlpjjemenaaDoorF96
import Derived.Laws.BitsAllLaws
namespace Go.Proofs.YtpjanlpjjemenaaDoor.Q4
open Go.RowKit Go.Proofs.YtpjanlpjjemenaaDoor.P Go.Proofs.YtpjanlpjjemenaaDoor.Hand Go.Proofs.YtpjanlpjjemenaaDoorW.PrintWords Go.Proofs.YtpjanlpjjemenaaDoorW.PrintLast Go.Proofs.YtpjanlpjjemenaaDoorW.PrintMore
set_option linter.unusedVariables false
set_option linter.unusedSimpArgs false

def Byts (l : List Int) : Prop := ∀ x ∈ l, 0 ≤ x ∧ x < 256
theorem wrap_id {i : Int} (h0 : -9223372036854775808 ≤ i) (h : i < 9223372036854775808) : wrap64 i = i := by unfold wrap64; omega
theorem rd_at (l : List Int) (i : Nat) (h : i < l.length) : rd l (i : Int) = l[i] := by
  unfold rd; rw [Int.toNat_natCast, List.getD_eq_getElem?_getD, List.getElem?_eq_getElem h]; rfl

/-- A number by a power of two, and low bits. -/
theorem or_low (s : Nat) (hs : s < 64) (x d : Int) (q : Nat) (hx : x % 18446744073709551616 = ((2 ^ s * q : Nat) : Int)) (h0 : 0 ≤ d) (hd : d.toNat < 2 ^ s) : Go.bits .or .i64 x d = wrap64 (x + d) := by
  obtain ⟨d, rfl⟩ := Int.eq_ofNat_of_zero_le h0
  rw [Int.toNat_natCast] at hd
  have hp : 2 ^ s ≤ 2 ^ 63 := Nat.pow_le_pow_right (by omega) (by omega)
  have hq : 2 ^ s * q < 18446744073709551616 := by omega
  show IntKind.i64.wrap ((BitVec.ofInt 64 x ||| BitVec.ofInt 64 (d : Int)).toNat : Int) = _
  rw [BitVec.toNat_or, BitVec.toNat_ofInt, BitVec.toNat_ofInt, IntKind.wrap_i64]
  rw [show ((2 ^ 64 : Nat) : Int) = 18446744073709551616 from rfl, hx, Int.toNat_natCast, show (((d : Nat) : Int) % 18446744073709551616).toNat = d by omega]
  rw [← Nat.two_pow_add_eq_or_of_lt hd q]
  unfold wrap64
  omega
theorem or_byte (n d : Int) (h0 : 0 ≤ d) (hd : d < 256) : Go.bits .or .i64 (wrap64 (n * 256)) d = wrap64 (n * 256 + d) := by
  rw [or_low 8 (by omega) (wrap64 (n * 256)) d (n % 72057594037927936).toNat (by unfold wrap64; omega) h0 (by omega)]
  unfold wrap64; omega
theorem or_oct (n d : Int) (h0 : 0 ≤ d) (hd : d < 8) : Go.bits .or .i64 (wrap64 (n * 8)) d = wrap64 (n * 8 + d) := by
  rw [or_low 3 (by omega) (wrap64 (n * 8)) d (n % 2305843009213693952).toNat (by unfold wrap64; omega) h0 (by omega)]
  unfold wrap64; omega

/-- Bytes, the first one's weight the greatest. -/
def acc : Int → List Int → Int
  | n, [] => n
  | n, c :: l => acc (wrap64 (n * 256 + c)) l
theorem base_l1 (l : List Int) (hl : l.length ≤ 100) (hb : Byts l) (d : Nat) : ∀ (k i : Nat) (n : Int), i + d = l.length → d < k → thwartref01_base.l1 k l n i = some (acc n (l.drop i), true) := by
  induction d with
  | zero =>
    intro k i n h1 h2
    obtain ⟨k, rfl⟩ : ∃ m, k = m + 1 := ⟨k - 1, by omega⟩
    rw [thwartref01_base.l1, if_neg (by omega), List.drop_eq_nil_of_le (by omega)]; rfl
  | succ d ih =>
    intro k i n h1 h2
    obtain ⟨k, rfl⟩ : ∃ m, k = m + 1 := ⟨k - 1, by omega⟩
    have hx := hb l[i] (List.getElem_mem (by omega))
    rw [thwartref01_base.l1, if_pos (by omega), if_pos (by omega), rd_at l i (by omega), wrap_id (i := (i : Int) + 1) (by omega) (by omega), show ((i : Int) + 1) = ((i + 1 : Nat) : Int) by omega, ih k (i + 1) _ (by omega) (by omega), List.drop_eq_getElem_cons (i := i) (by omega)]
    rw [show wrap64 (wrap64 (n * 256) + wrap64 l[i]) = wrap64 (n * 256 + l[i]) by unfold wrap64; omega]
    rfl
theorem flag_255 : ∀ x : Int, 0 ≤ x → x < 256 → (Go.bits .and .u8 (Go.bits .xor .u8 x 255) 128 = 0 ↔ 128 ≤ x) := by
  have h : ∀ x : Fin 256, (Go.bits .and .u8 (Go.bits .xor .u8 (x.val : Int) 255) 128 = 0 ↔ 128 ≤ (x.val : Int)) := by decide +kernel
  intro x h0 h1
  obtain ⟨x, rfl⟩ := Int.eq_ofNat_of_zero_le h0
  exact h ⟨x, by omega⟩
theorem flag_0 : ∀ x : Int, 0 ≤ x → x < 256 → (Go.bits .and .u8 (Go.bits .xor .u8 x 0) 128 = 0 ↔ x < 128) := by
  have h : ∀ x : Fin 256, (Go.bits .and .u8 (Go.bits .xor .u8 (x.val : Int) 0) 128 = 0 ↔ (x.val : Int) < 128) := by decide +kernel
  intro x h0 h1
  obtain ⟨x, rfl⟩ := Int.eq_ofNat_of_zero_le h0
  exact h ⟨x, by omega⟩
/-- unbase's loop, where eight are left at most, and the first of eight is right. -/
theorem unbase_tail (l : List Int) (f : Int) (hl : l.length ≤ 100) (hb : Byts l) (d : Nat) : ∀ (k i : Nat) (n : Int), i + d = l.length → d ≤ 8 → d < k → (∀ (h : d = 8) (hi : i < l.length), Go.bits .and .u8 (Go.bits .xor .u8 l[i] f) 128 = 0) → numf_unbase.l0 k l f n l l.length i = some (acc n (l.drop i), 0) := by
  induction d with
  | zero =>
    intro k i n h1 h8 h2 _
    obtain ⟨k, rfl⟩ : ∃ m, k = m + 1 := ⟨k - 1, by omega⟩
    rw [numf_unbase.l0, if_neg (by omega), List.drop_eq_nil_of_le (by omega)]; rfl
  | succ d ih =>
    intro k i n h1 h8 h2 hf
    obtain ⟨k, rfl⟩ : ∃ m, k = m + 1 := ⟨k - 1, by omega⟩
    have hx := hb l[i] (List.getElem_mem (by omega))
    have hw : wrap64 ((l.length : Int) - (i : Int)) = ((d + 1 : Nat) : Int) := by rw [wrap_id (by omega) (by omega)]; omega
    rw [numf_unbase.l0, if_pos (by omega), if_pos (by omega), if_pos (by omega), hw, if_neg (by omega), rd_at l i (by omega), wrap_id (i := (i : Int) + 1) (by omega) (by omega), show ((i : Int) + 1) = ((i + 1 : Nat) : Int) by omega, wrap_id (i := l[i]) (by omega) (by omega), or_byte n _ hx.1 hx.2, ih k (i + 1) _ (by omega) (by omega) (by omega) (fun h => by omega)]
    rw [List.drop_eq_getElem_cons (i := i) (by omega)]
    by_cases h : d = 7
    · rw [if_pos (by omega), if_pos (hf (by omega) (by omega))]; rfl
    · rw [if_neg (by omega)]; rfl

theorem fill_255 : wrap64 (IntKind.i8.wrap 255) = -1 := by decide +kernel
theorem fill_0 : wrap64 (IntKind.i8.wrap 0) = 0 := by decide +kernel
theorem or_fill : Go.bits .or .i64 (wrap64 (-1 * 256)) (wrap64 255) = -1 := by decide +kernel
theorem or_zero : Go.bits .or .i64 (wrap64 (0 * 256)) (wrap64 0) = 0 := by decide +kernel
theorem unbase_skip (l : List Int) (f n : Int) (hl : l.length ≤ 100) (hb : Byts l) (i k : Nat) (hi : i + 8 < l.length) (hn : Go.bits .or .i64 (wrap64 (n * 256)) (wrap64 f) = n) : numf_unbase.l0 (k + 1) l f n l l.length i = if l[i] = f then numf_unbase.l0 k l f n l l.length ((i + 1 : Nat) : Int) else some (0, 10) := by
  have hw : wrap64 ((l.length : Int) - (i : Int)) = ((l.length - i : Nat) : Int) := by rw [wrap_id (by omega) (by omega)]; omega
  rw [numf_unbase.l0, if_pos (by omega), if_pos (by omega), if_pos (by omega), hw, if_pos (by omega), rd_at l i (by omega), wrap_id (i := (i : Int) + 1) (by omega) (by omega), show ((i : Int) + 1) = ((i + 1 : Nat) : Int) by omega]
  by_cases h : l[i] = f
  · rw [if_pos h, if_pos h, if_neg (by omega), h, hn]
  · rw [if_neg h, if_neg h]
theorem unbase_eight (l : List Int) (f n : Int) (hl : l.length ≤ 100) (hb : Byts l) (i k : Nat) (hi : i + 8 = l.length) (hk : 8 < k) : numf_unbase.l0 k l f n l l.length i = if Go.bits .and .u8 (Go.bits .xor .u8 (l[i]'(by omega)) f) 128 = 0 then some (acc n (l.drop i), 0) else some (0, 10) := by
  by_cases h : Go.bits .and .u8 (Go.bits .xor .u8 (l[i]'(by omega)) f) 128 = 0
  · rw [if_pos h]
    exact unbase_tail l f hl hb 8 k i n hi (by omega) hk (fun _ _ => h)
  · obtain ⟨k, rfl⟩ : ∃ m, k = m + 1 := ⟨k - 1, by omega⟩
    have hw : wrap64 ((l.length : Int) - (i : Int)) = 8 := by rw [wrap_id (by omega) (by omega)]; omega
    rw [numf_unbase.l0, if_pos (by omega), if_pos (by omega), if_pos (by omega), hw, if_neg (by decide), if_pos rfl, rd_at l i (by omega), if_neg h, if_neg h]
theorem base_skip (c : Int) (l : List Int) (b : Bool) (hl : 8 ≤ l.length) (hl2 : l.length ≤ 100) (k : Nat) : thwartref01_base.l0 (k + 1) (c :: l) b = if c = (if b = true then 255 else 0) then thwartref01_base.l0 k l b else some (0, false) := by
  have hr : rd (c :: l) 0 = c := rfl
  have hlen : (c :: l).length = l.length + 1 := rfl
  rw [thwartref01_base.l0, if_pos (by rw [hlen]; omega), List.drop_one, List.tail_cons, hr]
  cases b
  · simp only [Bool.false_eq_true, if_false]
    rw [if_pos (by rw [hlen]; omega)]
    by_cases hc : c = 0
    · rw [if_pos hc, if_pos hc, if_pos (by rw [hlen]; omega)]
    · rw [if_neg hc, if_neg hc]
  · simp only [if_true]
    rw [if_pos (by rw [hlen]; omega)]
    by_cases hc : c = 255
    · rw [if_pos hc, if_pos hc, if_pos (by rw [hlen]; omega)]
    · rw [if_neg hc, if_neg hc]
theorem base_end (l : List Int) (b bad : Bool) (hl : l.length ≤ 100) (hb : Byts l) (k : Nat) (hk : l.length + 3 < k) : thwartref01_base.j1 k l b bad = if bad = true then some (0, false) else some (acc (if b = true then -1 else 0) l, true) := by
  obtain ⟨k, rfl⟩ : ∃ m, k = m + 2 := ⟨k - 2, by omega⟩
  have hq : ∀ n, thwartref01_base.j2 (k + 1) l n = some (acc n l, true) := fun n => by
    rw [thwartref01_base.j2]
    have := base_l1 l hl hb l.length k 0 n (by omega) (by omega)
    rw [List.drop_zero] at this
    exact this
  rw [thwartref01_base.j1]
  cases bad
  · simp only [Bool.false_eq_true, if_false, hq]
    split <;> rfl
  · simp only [if_true]
theorem base_eight (l : List Int) (b : Bool) (hl : l.length = 8) (hb : Byts l) (k : Nat) (hk : 20 ≤ k) : thwartref01_base.l0 k l b = if (b != decide ((128 : Int) ≤ l[0]'(by omega))) = true then some (0, false) else some (acc (if b = true then -1 else 0) l, true) := by
  obtain ⟨k, rfl⟩ : ∃ m, k = m + 1 := ⟨k - 1, by omega⟩
  have hr : rd l 0 = l[0] := rd_at l 0 (by omega)
  rw [thwartref01_base.l0, if_neg (by omega), if_pos (by omega), if_pos (by omega), hr, base_end l b _ (by omega) hb k (by omega)]
theorem base_few (l : List Int) (b : Bool) (hl : l.length < 8) (hb : Byts l) (k : Nat) (hk : 20 ≤ k) : thwartref01_base.l0 k l b = some (acc (if b = true then -1 else 0) l, true) := by
  obtain ⟨k, rfl⟩ : ∃ m, k = m + 1 := ⟨k - 1, by omega⟩
  rw [thwartref01_base.l0, if_neg (by omega), if_neg (by omega), base_end l b _ (by omega) hb k (by omega)]
  rfl

theorem base_core (l : List Int) (hl : l.length = 7 ∨ l.length = 11) (hb : Byts l) (b : Bool) (f n : Int) (hf : f = if b = true then 255 else 0) (hn : n = if b = true then -1 else 0) (hor : Go.bits .or .i64 (wrap64 (n * 256)) (wrap64 f) = n)
    (hflag : ∀ x : Int, 0 ≤ x → x < 256 → (Go.bits .and .u8 (Go.bits .xor .u8 x f) 128 = 0 ↔ (b != decide (128 ≤ x)) = false)) (k : Nat) (hk : 30 ≤ k) :
    ∃ m e, numf_unbase.l0 19 l f n l l.length 0 = some (m, e) ∧ ∃ ok, thwartref01_base.f k l b = some (m, ok) ∧ ((ok = true ∧ e = 0) ∨ (ok = false ∧ e = 10 ∧ m = 0)) := by
  unfold thwartref01_base.f
  rcases hl with hl | hl
  · have h := unbase_tail l f (by omega) hb 7 19 0 n (by omega) (by omega) (by omega) (fun h => by omega)
    rw [List.drop_zero] at h
    refine ⟨_, _, h, true, ?_, .inl ⟨rfl, rfl⟩⟩
    rw [base_few l b (by omega) hb k (by omega), hn]
  · match l, hl with
    | [a0, a1, a2, a3, a4, a5, a6, a7, a8, a9, a10], _ =>
      obtain ⟨k, rfl⟩ : ∃ m, k = m + 3 := ⟨k - 3, by omega⟩
      have s0 := unbase_skip [a0, a1, a2, a3, a4, a5, a6, a7, a8, a9, a10] f n (by simp) hb 0 18 (by simp) hor
      have s1 := unbase_skip [a0, a1, a2, a3, a4, a5, a6, a7, a8, a9, a10] f n (by simp) hb 1 17 (by simp) hor
      have s2 := unbase_skip [a0, a1, a2, a3, a4, a5, a6, a7, a8, a9, a10] f n (by simp) hb 2 16 (by simp) hor
      have s3 := unbase_eight [a0, a1, a2, a3, a4, a5, a6, a7, a8, a9, a10] f n (by simp) hb 3 16 rfl (by decide)
      have hb8 : Byts [a3, a4, a5, a6, a7, a8, a9, a10] := fun x hx => hb x (List.mem_of_mem_drop (i := 3) (show x ∈ List.drop 3 [a0, a1, a2, a3, a4, a5, a6, a7, a8, a9, a10] from hx))
      have r3 : thwartref01_base.l0 k [a3, a4, a5, a6, a7, a8, a9, a10] b = if (b != decide ((128 : Int) ≤ a3)) = true then some (0, false) else some (acc (if b = true then -1 else 0) [a3, a4, a5, a6, a7, a8, a9, a10], true) := base_eight [a3, a4, a5, a6, a7, a8, a9, a10] b rfl hb8 k (by omega)
      rw [show ((0 : Nat) : Int) = 0 from rfl] at s0
      rw [s0, base_skip a0 _ b (by simp) (by simp), ← hf]
      simp only [List.getElem_cons_zero]
      by_cases c0 : a0 = f
      · rw [if_pos c0, if_pos c0, s1, base_skip a1 _ b (by simp) (by simp), ← hf]
        simp only [List.getElem_cons_zero, List.getElem_cons_succ]
        by_cases c1 : a1 = f
        · rw [if_pos c1, if_pos c1, s2, base_skip a2 _ b (by simp) (by simp), ← hf]
          simp only [List.getElem_cons_zero, List.getElem_cons_succ]
          by_cases c2 : a2 = f
          · rw [if_pos c2, if_pos c2, s3, r3]
            simp only [List.getElem_cons_zero, List.getElem_cons_succ, List.drop_succ_cons, List.drop_zero]
            have hx := hb a3 (by simp)
            have hfl := hflag a3 hx.1 hx.2
            by_cases c3 : Go.bits .and .u8 (Go.bits .xor .u8 a3 f) 128 = 0
            · rw [if_pos c3, hfl.1 c3]
              exact ⟨_, _, rfl, true, by rw [hn]; rfl, .inl ⟨rfl, rfl⟩⟩
            · rw [if_neg c3]
              have : (b != decide (128 ≤ a3)) = true := by
                cases h : (b != decide (128 ≤ a3))
                · exact absurd (hfl.2 h) c3
                · rfl
              rw [this]
              exact ⟨_, _, rfl, false, rfl, .inr ⟨rfl, rfl, rfl⟩⟩
          · rw [if_neg c2, if_neg c2]
            exact ⟨_, _, rfl, false, rfl, .inr ⟨rfl, rfl, rfl⟩⟩
        · rw [if_neg c1, if_neg c1]
          exact ⟨_, _, rfl, false, rfl, .inr ⟨rfl, rfl, rfl⟩⟩
      · rw [if_neg c0, if_neg c0]
        exact ⟨_, _, rfl, false, rfl, .inr ⟨rfl, rfl, rfl⟩⟩
/-- Numbers of base 256 are read as the document reads them. -/
theorem base_same (l : List Int) (hl : l.length = 7 ∨ l.length = 11) (hb : Byts l) (first : Int) (hf : first = 128 ∨ first = 255) (k : Nat) (hk : 30 ≤ k) : ∃ n e, numf_unbase.f 20 first l = some (n, e) ∧ ∃ ok, thwartref01_base.f k l (first == 255) = some (n, ok) ∧ ((ok = true ∧ e = 0) ∨ (ok = false ∧ e = 10 ∧ n = 0)) := by
  unfold numf_unbase.f
  rcases hf with rfl | rfl
  · rw [if_neg (by decide), show ((128 : Int) == 255) = false from rfl, numf_unbase.j0, fill_0]
    exact base_core l hl hb false 0 0 rfl rfl or_zero (fun x h0 h1 => by rw [flag_0 x h0 h1]; simp) k hk
  · rw [if_pos rfl, show ((255 : Int) == 255) = true from rfl, numf_unbase.j0, fill_255]
    exact base_core l hl hb true 255 (-1) rfl rfl or_fill (fun x h0 h1 => by rw [flag_255 x h0 h1]; simp) k hk

/-- Octal digits' number. -/
def oct : Int → List Int → Int
  | n, [] => n
  | n, c :: l => oct (n * 8 + (c - 48)) l
theorem octVal_oct (l : List Int) : ∀ n, 0 ≤ n → n < 8 ^ (20 - l.length) → l.length ≤ 12 → (∀ x ∈ l, 48 ≤ x ∧ x ≤ 55) → octVal n l = oct n l := by
  induction l with
  | nil => intro n _ _ _ _; rfl
  | cons c l ih =>
    intro n h0 h1 hl hd
    have hc := hd c (by simp)
    simp only [List.length_cons] at h1 hl
    have e : (8 : Int) ^ (20 - l.length) = 8 * 8 ^ (20 - (l.length + 1)) := by
      rw [show 20 - l.length = (20 - (l.length + 1)) + 1 by omega, Int.pow_succ]; omega
    have hp : (8 : Int) ^ (20 - l.length) ≤ 8 ^ 20 := by
      have : (8 : Nat) ^ (20 - l.length) ≤ 8 ^ 20 := Nat.pow_le_pow_right (by omega) (by omega)
      exact_mod_cast this
    have hn : n * 8 + (c - 48) < 8 ^ (20 - l.length) := by omega
    have h20 : (8 : Int) ^ 20 = 1152921504606846976 := by decide +kernel
    unfold octVal oct
    rw [or_oct n (c - 48) (by omega) (by omega), wrap_id (by omega) (by omega)]
    exact ih _ (by omega) hn (by omega) (fun x hx => hd x (by simp [hx]))
theorem dw_nil (p : UInt8 → Bool) (l : List UInt8) : l.dropWhile p = [] ↔ ∀ b ∈ l, p b = true := by
  induction l with
  | nil => simp
  | cons x l ih =>
    rw [List.dropWhile_cons]
    by_cases h : p x = true
    · rw [if_pos h, ih]
      constructor
      · intro h1 b hb
        rcases List.mem_cons.1 hb with h2 | h2
        · rw [h2]; exact h
        · exact h1 b h2
      · intro h1 b hb; exact h1 b (List.mem_cons_of_mem _ hb)
    · rw [if_neg h]
      constructor
      · intro h1; cases h1
      · intro h1; exact absurd (h1 x (List.mem_cons_self)) h
theorem tw_mem (p : UInt8 → Bool) (l : List UInt8) : ∀ b ∈ l.takeWhile p, p b = true := by
  induction l with
  | nil => intro b hb; cases hb
  | cons x l ih =>
    intro b hb
    rw [List.takeWhile_cons] at hb
    by_cases h : p x = true
    · rw [if_pos h] at hb
      rcases List.mem_cons.1 hb with h2 | h2
      · rw [h2]; exact h
      · exact ih b h2
    · rw [if_neg h] at hb; cases hb
/-- What is behind the digits: noughts and spaces alone. -/
def blank (l : List Int) : Bool := l.all fun x => x == 0 || x == 32
theorem trim_blank (l : List Int) (hb : Byts l) : (Lib.trimS (Lib.bytesOf l) [32, 0]).length = 0 ↔ blank l = true := by
  have hc : ∀ x : Int, 0 ≤ x → x < 256 → (([32, 0] : List UInt8).contains x.toNat.toUInt8 = true ↔ (x == 0 || x == 32) = true) := by
    have h : ∀ x : Fin 256, (([32, 0] : List UInt8).contains (x.val : Int).toNat.toUInt8 = true ↔ ((x.val : Int) == 0 || (x.val : Int) == 32) = true) := by decide +kernel
    intro x h0 h1
    obtain ⟨x, rfl⟩ := Int.eq_ofNat_of_zero_le h0
    exact h ⟨x, by omega⟩
  have h1 : (∀ b ∈ Lib.bytesOf l, ([32, 0] : List UInt8).contains b = true) ↔ blank l = true := by
    unfold blank Lib.bytesOf
    rw [List.all_eq_true]
    constructor
    · intro h x hx
      exact (hc x (hb x hx).1 (hb x hx).2).1 (h _ (List.mem_map_of_mem hx))
    · intro h b hb2
      obtain ⟨x, hx, rfl⟩ := List.mem_map.1 hb2
      exact (hc x (hb x hx).1 (hb x hx).2).2 (h x hx)
  rw [← h1]
  unfold Lib.trimS Lib.trimLeftS Lib.trimRightS
  generalize Lib.bytesOf l = m
  constructor
  · intro h
    have h2 : ∀ b ∈ (m.reverse.dropWhile (([32, 0] : List UInt8).contains ·)).reverse, ([32, 0] : List UInt8).contains b = true := by
      have := List.eq_nil_of_length_eq_zero h
      exact (dw_nil _ _).1 this
    intro b hb2
    rcases Classical.em (b ∈ m.reverse.dropWhile (([32, 0] : List UInt8).contains ·)) with h3 | h3
    · exact h2 b (by simpa using h3)
    · have h4 : b ∈ m.reverse.takeWhile (([32, 0] : List UInt8).contains ·) := by
        have : b ∈ m.reverse := by simpa using hb2
        rw [← List.takeWhile_append_dropWhile (p := (([32, 0] : List UInt8).contains ·)) (l := m.reverse)] at this
        rcases List.mem_append.1 this with h5 | h5
        · exact h5
        · exact absurd h5 h3
      exact tw_mem _ _ b h4
  · intro h
    have h2 : m.reverse.dropWhile (([32, 0] : List UInt8).contains ·) = [] := (dw_nil _ _).2 (fun b hb2 => h b (by simpa using hb2))
    rw [h2]; rfl

theorem get_l2 (l : List Int) (hl : l.length ≤ 100) (v c : Int) (d : Nat) : ∀ (k i : Nat), i + d = l.length → d < k → thwartref01_Get.l2 k l i v c = some (if c = 0 ∨ blank (l.drop i) = false then (0, 3) else (v, 0)) := by
  induction d with
  | zero =>
    intro k i h1 h2
    obtain ⟨k, rfl⟩ : ∃ m, k = m + 1 := ⟨k - 1, by omega⟩
    rw [thwartref01_Get.l2, if_neg (by omega), List.drop_eq_nil_of_le (by omega)]
    by_cases h : c = 0
    · rw [if_pos h, if_pos (.inl h)]
    · rw [if_neg h, if_neg (by rintro (h1 | h1); exact h h1; cases h1)]
  | succ d ih =>
    intro k i h1 h2
    obtain ⟨k, rfl⟩ : ∃ m, k = m + 1 := ⟨k - 1, by omega⟩
    have hd : l.drop i = l[i] :: l.drop (i + 1) := List.drop_eq_getElem_cons (by omega)
    rw [thwartref01_Get.l2, if_pos (by omega), if_pos (by omega), rd_at l i (by omega), wrap_id (i := (i : Int) + 1) (by omega) (by omega), show ((i : Int) + 1) = ((i + 1 : Nat) : Int) by omega, ih k (i + 1) (by omega) (by omega), hd]
    unfold blank
    rw [List.all_cons]
    by_cases h0 : l[i] = 0
    · rw [if_pos h0, h0]; rfl
    · rw [if_neg h0]
      by_cases h32 : l[i] = 32
      · rw [if_pos h32, h32]; rfl
      · rw [if_neg h32, show (l[i] == 0 || l[i] == 32) = false by rw [beq_eq_false_iff_ne.2 h0, beq_eq_false_iff_ne.2 h32]; rfl]
        rw [show (if c = 0 then (some (0, 3) : Option (Int × Int)) else some (0, 3)) = some (0, 3) by split <;> rfl, if_pos (.inr rfl)]
theorem get_l1 (l : List Int) (hl : l.length ≤ 12) (hb : Byts l) (d : Nat) : ∀ (k i : Nat) (v c : Int), i + d = l.length → 2 * d + 5 < k → 0 ≤ v → v < 8 ^ (20 - d) → 0 ≤ c → c ≤ i → thwartref01_Get.l1 k l i v c = some (if (c = 0 ∧ octs (l.drop i) = 0) ∨ blank ((l.drop i).drop (octs (l.drop i))) = false then (0, 3) else (oct v ((l.drop i).take (octs (l.drop i))), 0)) := by
  have fin : ∀ (k i : Nat) (v c : Int), i ≤ l.length → l.length - i + 3 < k → thwartref01_Get.j4 k l i v c = some (if c = 0 ∨ blank (l.drop i) = false then (0, 3) else (v, 0)) := by
    intro k i v c h1 h2
    obtain ⟨k, rfl⟩ : ∃ m, k = m + 1 := ⟨k - 1, by omega⟩
    rw [thwartref01_Get.j4]
    exact get_l2 l (by omega) v c (l.length - i) k i (by omega) (by omega)
  induction d with
  | zero =>
    intro k i v c h1 h2 h3 h4 h5 h6
    obtain ⟨k, rfl⟩ : ∃ m, k = m + 1 := ⟨k - 1, by omega⟩
    rw [thwartref01_Get.l1, if_neg (by omega), fin k i v c (by omega) (by omega), List.drop_eq_nil_of_le (by omega)]
    simp [octs, oct]
  | succ d ih =>
    intro k i v c h1 h2 h3 h4 h5 h6
    obtain ⟨k, rfl⟩ : ∃ m, k = m + 1 := ⟨k - 1, by omega⟩
    have hx := hb l[i] (List.getElem_mem (by omega))
    have hd : l.drop i = l[i] :: l.drop (i + 1) := List.drop_eq_getElem_cons (by omega)
    rw [thwartref01_Get.l1, if_pos (by omega), if_pos (by omega), rd_at l i (by omega)]
    by_cases ho : 48 ≤ l[i] ∧ l[i] ≤ 55
    · have e : (8 : Int) ^ (20 - d) = 8 * 8 ^ (20 - (d + 1)) := by
        rw [show 20 - d = (20 - (d + 1)) + 1 by omega, Int.pow_succ]; omega
      have hp : (8 : Int) ^ (20 - d) ≤ 8 ^ 20 := by
        have : (8 : Nat) ^ (20 - d) ≤ 8 ^ 20 := Nat.pow_le_pow_right (by omega) (by omega)
        exact_mod_cast this
      have h20 : (8 : Int) ^ 20 = 1152921504606846976 := by decide +kernel
      rw [if_pos (by omega), if_pos (by omega), wrap_id (i := (i : Int) + 1) (by omega) (by omega), show ((i : Int) + 1) = ((i + 1 : Nat) : Int) by omega, wrap_id (i := 8 * v) (by omega) (by omega), wrap_id (i := 8 * v + _) (by omega) (by omega), wrap_id (i := c + 1) (by omega) (by omega), ih k (i + 1) _ _ (by omega) (by omega) (by omega) (by omega) (by omega) (by omega), hd]
      have hoc : octs (l[i] :: l.drop (i + 1)) = octs (l.drop (i + 1)) + 1 := by
        conv => lhs; unfold octs
        rw [if_pos ho]
      rw [hoc, List.drop_succ_cons, List.take_succ_cons]
      conv => rhs; unfold oct
      rw [show 8 * v + (l[i] - 48) % 256 = v * 8 + (l[i] - 48) by omega]
      congr 1
      by_cases hbk : blank ((l.drop (i + 1)).drop (octs (l.drop (i + 1)))) = false
      · rw [if_pos (.inr hbk), if_pos (.inr hbk)]
      · rw [if_neg (by rintro (h | h); omega; exact hbk h), if_neg (by rintro (h | h); omega; exact hbk h)]
    · have hoc : octs (l[i] :: l.drop (i + 1)) = 0 := by unfold octs; rw [if_neg ho]
      have hj : ∀ r, (if l[i] ≥ 48 then (if l[i] ≤ 55 then r else thwartref01_Get.j4 k l i v c) else thwartref01_Get.j4 k l i v c) = thwartref01_Get.j4 k l i v c := by
        intro r
        by_cases h48 : l[i] ≥ 48
        · rw [if_pos h48, if_neg (by omega)]
        · rw [if_neg h48]
      rw [hj, fin k i v c (by omega) (by omega), hd, hoc, List.drop_zero, List.take_zero]
      simp [oct]
theorem get_l0 (l : List Int) (hl : l.length ≤ 12) (hb : Byts l) (d : Nat) : ∀ (k i : Nat), i + d = l.length → 3 * d + 20 < k → thwartref01_Get.l0 k l i = some (if octs (skip 32 (l.drop i)) = 0 ∨ blank ((skip 32 (l.drop i)).drop (octs (skip 32 (l.drop i)))) = false then (0, 3) else (oct 0 ((skip 32 (l.drop i)).take (octs (skip 32 (l.drop i)))), 0)) := by
  have fin : ∀ (k i : Nat), i ≤ l.length → 2 * (l.length - i) + 8 < k → skip 32 (l.drop i) = l.drop i → thwartref01_Get.j2 k l i = some (if octs (skip 32 (l.drop i)) = 0 ∨ blank ((skip 32 (l.drop i)).drop (octs (skip 32 (l.drop i)))) = false then (0, 3) else (oct 0 ((skip 32 (l.drop i)).take (octs (skip 32 (l.drop i)))), 0)) := by
    intro k i h1 h2 h3
    obtain ⟨k, rfl⟩ : ∃ m, k = m + 1 := ⟨k - 1, by omega⟩
    rw [thwartref01_Get.j2, h3]
    have hp : (0 : Int) < 8 ^ (20 - (l.length - i)) := Int.pow_pos (by omega)
    have := get_l1 l hl hb (l.length - i) k i 0 0 (by omega) (by omega) (by omega) hp (by omega) (by omega)
    rw [this]
    simp
  induction d with
  | zero =>
    intro k i h1 h2
    obtain ⟨k, rfl⟩ : ∃ m, k = m + 1 := ⟨k - 1, by omega⟩
    rw [thwartref01_Get.l0, if_neg (by omega)]
    exact fin k i (by omega) (by omega) (by rw [List.drop_eq_nil_of_le (by omega)]; rfl)
  | succ d ih =>
    intro k i h1 h2
    obtain ⟨k, rfl⟩ : ∃ m, k = m + 1 := ⟨k - 1, by omega⟩
    have hd : l.drop i = l[i] :: l.drop (i + 1) := List.drop_eq_getElem_cons (by omega)
    rw [thwartref01_Get.l0, if_pos (by omega), if_pos (by omega), rd_at l i (by omega)]
    by_cases h : l[i] = 32
    · rw [if_pos h, wrap_id (i := (i : Int) + 1) (by omega) (by omega), show ((i : Int) + 1) = ((i + 1 : Nat) : Int) by omega, ih k (i + 1) (by omega) (by omega), hd, h]
      rw [show skip 32 (32 :: l.drop (i + 1)) = skip 32 (l.drop (i + 1)) by conv => lhs; unfold skip
                                                                            rw [if_pos rfl]]
    · rw [if_neg h]
      exact fin k i (by omega) (by omega) (by rw [hd]; unfold skip; rw [if_neg h])
theorem skip_len (c : Int) (l : List Int) : (skip c l).length ≤ l.length := by
  induction l with
  | nil => exact Nat.le_refl _
  | cons x l ih => unfold skip; split <;> simp only [List.length_cons] <;> omega
/-- Every field is read as the document reads it. -/
theorem get_same (l : List Int) (hl : l.length ≤ 1000) (hb : Byts l) (k : Nat) (hk : 100 ≤ k) : ∃ n e, numf_Get.f l = some (n, e) ∧ thwartref01_Get.f k l = some (n, e) := by
  unfold numf_Get.f thwartref01_Get.f thwartref01_wide.f
  by_cases hw : l.length = 8 ∨ l.length = 12
  · have hwide : (if (l.length : Int) = 8 then some true else some ((l.length : Int) == 12)) = some true := by
      rcases hw with h | h <;> rw [h] <;> rfl
    rw [if_pos hw, if_pos (show ∀ x ∈ l, 0 ≤ x ∧ x < 256 from hb), hwide, Option.bind_some, if_pos rfl, if_pos (show (0 : Int) < (l.length : Int) by omega)]
    obtain ⟨k, rfl⟩ : ∃ m, k = m + 1 := ⟨k - 1, by omega⟩
    have hbase : rd l 0 = 128 ∨ rd l 0 = 255 → ∃ n e, numf_unbase.f 20 (rd l 0) (l.drop 1) = some (n, e) ∧ thwartref01_Get.j0 (k + 1) l true = some (n, e) := by
      intro hf
      obtain ⟨n, e, h1, ok, h2, h3⟩ := base_same (l.drop 1) (by rw [List.length_drop]; omega) (fun x hx => hb x (List.mem_of_mem_drop hx)) (rd l 0) hf k (by omega)
      refine ⟨n, e, h1, ?_⟩
      rw [thwartref01_Get.j0, if_pos rfl, if_pos (show (1 : Int) ≤ (l.length : Int) by omega), if_pos (show (0 : Int) < (l.length : Int) by omega), h2, Option.bind_some]
      rcases h3 with ⟨rfl, rfl⟩ | ⟨rfl, rfl, rfl⟩ <;> rfl
    by_cases h128 : rd l 0 = 128
    · rw [if_pos (.inl h128), if_pos h128]
      exact hbase (.inl h128)
    · rw [if_neg h128]
      by_cases h255 : rd l 0 = 255
      · rw [if_pos (.inr h255), show (rd l 0 == 255) = true by rw [h255]; rfl]
        exact hbase (.inr h255)
      · rw [if_neg (by rintro (h | h); exact h128 h; exact h255 h), show (rd l 0 == 255) = false from beq_eq_false_iff_ne.2 h255, thwartref01_Get.j0, if_neg (show ¬ (false = true) by decide)]
        have h0 := get_l0 l (by omega) hb l.length k 0 (by omega) (by omega)
        rw [show ((0 : Nat) : Int) = 0 from rfl, List.drop_zero] at h0
        rw [h0]
        have hsb : Byts (skip 32 l) := fun x hx => hb x (mem_skip 32 l x hx)
        have hsl := skip_len 32 l
        by_cases ho : octs (skip 32 l) = 0
        · rw [if_pos ho, if_pos (.inl ho)]; exact ⟨_, _, rfl, rfl⟩
        · rw [if_neg ho]
          have ht := trim_blank ((skip 32 l).drop (octs (skip 32 l))) (fun x hx => hsb x (List.mem_of_mem_drop hx))
          by_cases hbk : blank ((skip 32 l).drop (octs (skip 32 l))) = true
          · rw [if_neg (by have := ht.2 hbk; omega), if_neg (by rintro (h | h); exact ho h; rw [hbk] at h; cases h)]
            have hm := octs_mem (skip 32 l)
            have hle := octs_le (skip 32 l)
            have hp : (0 : Int) < 8 ^ (20 - ((skip 32 l).take (octs (skip 32 l))).length) := Int.pow_pos (by omega)
            rw [octVal_oct _ 0 (by omega) hp (by rw [List.length_take]; omega) hm]
            exact ⟨_, _, rfl, rfl⟩
          · rw [if_pos (by have : ¬ (Lib.trimS (Lib.bytesOf ((skip 32 l).drop (octs (skip 32 l)))) [32, 0]).length = 0 := fun h => hbk (ht.1 h)
                           omega), if_pos (.inr (by simpa using hbk))]
            exact ⟨_, _, rfl, rfl⟩
  · have hwide : (if (l.length : Int) = 8 then some true else some ((l.length : Int) == 12)) = some false := by
      rw [if_neg (by omega), beq_eq_false_iff_ne.2 (by omega)]
    rw [if_neg hw, hwide, Option.bind_some, if_neg (by decide)]
    exact ⟨_, _, rfl, rfl⟩

end Go.Proofs.YtpjanlpjjemenaaDoor.Q4
