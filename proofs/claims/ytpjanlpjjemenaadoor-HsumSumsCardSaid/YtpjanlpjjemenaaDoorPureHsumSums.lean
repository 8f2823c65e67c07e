/- The pure statement of HsumSums: the sum of any bytes, they with it, and the sum that they tell, are the document's, or refused. For every input. -/
import Derived.Test.YtpjanlpjjemenaaDoorF5
import Derived.Test.YtpjanlpjjemenaaDoorQHsum
import Derived.Test.YtpjanlpjjemenaaDoorQNum
namespace Go.Proofs.YtpjanlpjjemenaaDoor.Pure
open Go.RowKit Go.Proofs.YtpjanlpjjemenaaDoor.P Go.Proofs.YtpjanlpjjemenaaDoor.Hand Go.Proofs.YtpjanlpjjemenaaDoor.Q3 Go.Proofs.YtpjanlpjjemenaaDoorW.PrintWords Go.Proofs.YtpjanlpjjemenaaDoorW.PrintLast
set_option linter.unusedVariables false
set_option linter.unusedSimpArgs false

theorem u8_ok3 (x : Int) (h : (Lit.int .u8 x).wf = true) : 0 ≤ x ∧ x < 256 := by
  simp [Lit.wf] at h
  have h1 : IntKind.u8.min = 0 := by decide +kernel
  have h2 : IntKind.u8.max = 255 := by decide +kernel
  omega

/-- What the document's loop adds up, from a place on. -/
def T : List Int → Nat → Int
  | [], _ => 0
  | x :: l, i => (if 148 ≤ i ∧ i < 156 then 32 else x) + T l (i + 1)
theorem T_append (a b : List Int) : ∀ i, T (a ++ b) i = T a i + T b (i + a.length) := by
  induction a with
  | nil => intro i; simp [T]
  | cons x a ih =>
    intro i
    simp only [List.cons_append, T, ih, List.length_cons]
    rw [show i + 1 + a.length = i + (a.length + 1) by omega]; omega
theorem T_out (a : List Int) : ∀ i, (i + a.length ≤ 148 ∨ 156 ≤ i) → T a i = a.sum := by
  induction a with
  | nil => intro i _; simp [T]
  | cons x a ih =>
    intro i h
    simp only [List.length_cons] at h
    simp only [T, List.sum_cons]
    rw [ih (i + 1) (by omega), if_neg (by omega)]
theorem T_in (a : List Int) : ∀ i, 148 ≤ i → i + a.length ≤ 156 → T a i = 32 * a.length := by
  induction a with
  | nil => intro i _ _; simp [T]
  | cons x a ih =>
    intro i h1 h2
    simp only [List.length_cons] at h2 ⊢
    simp only [T]
    rw [ih (i + 1) (by omega) (by omega), if_pos (by omega)]; push_cast; omega
theorem T_S (l : List Int) (hl : l.length = 512) : T l 0 = S l := by
  have h1 : l = l.take 148 ++ ((l.drop 148).take 8 ++ l.drop 156) := by
    rw [show l.drop 156 = (l.drop 148).drop 8 by rw [List.drop_drop], List.take_append_drop, List.take_append_drop]
  have e1 : (l.take 148).length = 148 := by rw [List.length_take]; omega
  have e2 : ((l.drop 148).take 8).length = 8 := by rw [List.length_take, List.length_drop]; omega
  conv => lhs; rw [h1]
  rw [T_append, T_append, T_out _ 0 (by omega), e1, T_in _ _ (by omega) (by omega), e2, T_out _ _ (by omega)]
  unfold S
  omega
theorem ref_sum_loop (l : List Int) (hl : l.length = 512) (hb : Bytes l) (d : Nat) : ∀ (k i : Nat) (n : Int), i + d = 512 → d < k → 0 ≤ n → n ≤ 255 * i → thwartref03_Sum.l0 k l n i = some (n + T (l.drop i) i) := by
  induction d with
  | zero =>
    intro k i n h1 h2 h3 h4
    obtain ⟨k, rfl⟩ : ∃ m, k = m + 1 := ⟨k - 1, by omega⟩
    rw [thwartref03_Sum.l0, if_neg (by omega), List.drop_eq_nil_of_le (by omega)]; simp [T]
  | succ d ih =>
    intro k i n h1 h2 h3 h4
    obtain ⟨k, rfl⟩ : ∃ m, k = m + 1 := ⟨k - 1, by omega⟩
    have hx := hb.at i (by omega)
    have hd : l.drop i = l[i] :: l.drop (i + 1) := List.drop_eq_getElem_cons (by omega)
    have hw : wrap64 ((i : Int) + 1) = ((i + 1 : Nat) : Int) := by rw [wrap_id (by omega) (by omega)]; omega
    rw [thwartref03_Sum.l0, if_pos (by omega), hw, rd_at l i (by omega), wrap_id (i := l[i]) (by omega) (by omega), wrap_id (i := n + l[i]) (by omega) (by omega), wrap_id (i := n + 32) (by omega) (by omega), hd]
    simp only [T]
    by_cases h : 148 ≤ i ∧ i < 156
    · rw [if_pos (by omega), if_pos (by omega), ih k (i + 1) _ (by omega) (by omega) (by omega) (by omega), if_pos h]
      congr 1; omega
    · rw [if_neg h]
      have : thwartref03_Sum.l0 k l (n + l[i]) ((i + 1 : Nat) : Int) = some (n + (l[i] + T (l.drop (i + 1)) (i + 1))) := by
        rw [ih k (i + 1) _ (by omega) (by omega) (by omega) (by omega)]; congr 1; omega
      rw [this]
      by_cases h48 : (i : Int) ≥ 148
      · rw [if_pos h48, if_neg (by omega), if_pos (by omega)]
      · rw [if_neg h48, if_pos (by omega)]
theorem ref_sum (l : List Int) (hl : l.length = 512) (hb : Bytes l) (k : Nat) (hk : 600 ≤ k) : thwartref03_Sum.f k l = some (S l) := by
  unfold thwartref03_Sum.f
  have := ref_sum_loop l hl hb 512 k 0 0 rfl (by omega) (by omega) (by omega)
  rw [List.drop_zero, T_S l hl, Int.zero_add] at this
  exact this
theorem most_ref (k : Nat) (hk : 30 ≤ k) : thwartref01_Most.f k 6 = some 262143 := by
  obtain ⟨d, rfl⟩ : ∃ d, k = 30 + d := ⟨k - 30, by omega⟩
  clear hk
  induction d with
  | zero => decide +kernel
  | succ d ih => exact thwartref01_Most.mono 6 (30 + d) 262143 ih
theorem oct_step (k : Nat) (x : Int) (L : List Int) (i : Nat) (h0 : 0 ≤ x) (h1 : x < 1000000) (hi : i < 6) (hL : L.length = 6) : thwartref01_Octal.l0 (k + 1) x L i = thwartref01_Octal.l0 k (x / 8) (L.set i (48 + x % 8)) ((i : Int) - 1) := by
  rw [thwartref01_Octal.l0, if_pos (by omega), if_pos (by omega), if_pos (by omega), Int.toNat_natCast, Int.tdiv_eq_ediv_of_nonneg h0, Int.tmod_eq_emod_of_nonneg h0, wrap_id (i := x / 8) (by omega) (by omega), wrap_id (i := 48 + x % 8) (by omega) (by omega), wrap_id (i := (i : Int) - 1) (by omega) (by omega), show (48 + x % 8) % 256 = 48 + x % 8 by omega]
theorem ref_octal (n : Int) (h0 : 0 ≤ n) (h1 : n < 262144) (k : Nat) (hk : 50 ≤ k) : thwartref01_Octal.f k n 6 = some (dig n, 0) := by
  obtain ⟨k, rfl⟩ : ∃ m, k = m + 9 := ⟨k - 9, by omega⟩
  unfold thwartref01_Octal.f
  rw [if_neg (by decide), show (decide ((6 : Int) > 20)) = false from rfl, thwartref01_Octal.j0, if_neg (by decide), if_neg (by omega), most_ref _ (by omega), Option.bind_some, decide_eq_false (by omega), thwartref01_Octal.j1, if_neg (by decide), if_pos (by decide), if_pos (by decide)]
  rw [show wrap64 (6 - 1) = 5 by decide +kernel]
  show thwartref01_Octal.l0 (k + 7) n [0, 0, 0, 0, 0, 0] 5 = _
  have s5 := oct_step (k + 6) n [0, 0, 0, 0, 0, 0] 5 (by omega) (by omega) (by omega) rfl
  have s4 := oct_step (k + 5) (n / 8) ([0, 0, 0, 0, 0, 0].set 5 (48 + n % 8)) 4 (by omega) (by omega) (by omega) rfl
  have s3 := oct_step (k + 4) (n / 8 / 8) (([0, 0, 0, 0, 0, 0].set 5 (48 + n % 8)).set 4 (48 + n / 8 % 8)) 3 (by omega) (by omega) (by omega) rfl
  have s2 := oct_step (k + 3) (n / 8 / 8 / 8) ((([0, 0, 0, 0, 0, 0].set 5 (48 + n % 8)).set 4 (48 + n / 8 % 8)).set 3 (48 + n / 8 / 8 % 8)) 2 (by omega) (by omega) (by omega) rfl
  have s1 := oct_step (k + 2) (n / 8 / 8 / 8 / 8) (((([0, 0, 0, 0, 0, 0].set 5 (48 + n % 8)).set 4 (48 + n / 8 % 8)).set 3 (48 + n / 8 / 8 % 8)).set 2 (48 + n / 8 / 8 / 8 % 8)) 1 (by omega) (by omega) (by omega) rfl
  have s0 := oct_step (k + 1) (n / 8 / 8 / 8 / 8 / 8) ((((([0, 0, 0, 0, 0, 0].set 5 (48 + n % 8)).set 4 (48 + n / 8 % 8)).set 3 (48 + n / 8 / 8 % 8)).set 2 (48 + n / 8 / 8 / 8 % 8)).set 1 (48 + n / 8 / 8 / 8 / 8 % 8)) 0 (by omega) (by omega) (by omega) rfl
  refine s5.trans (s4.trans (s3.trans (s2.trans (s1.trans (s0.trans ?_)))))
  show thwartref01_Octal.l0 (k + 1) _ _ (-1) = _
  rw [thwartref01_Octal.l0, if_neg (by decide)]
  show some ([48 + n / 8 / 8 / 8 / 8 / 8 % 8, 48 + n / 8 / 8 / 8 / 8 % 8, 48 + n / 8 / 8 / 8 % 8, 48 + n / 8 / 8 % 8, 48 + n / 8 % 8, 48 + n % 8], (0 : Int)) = some (dig n, 0)
  unfold dig
  rw [show n / 8 / 8 / 8 / 8 / 8 = n / 32768 by omega, show n / 8 / 8 / 8 / 8 = n / 4096 by omega, show n / 8 / 8 / 8 = n / 512 by omega, show n / 8 / 8 = n / 64 by omega]
theorem ref_put (l : List Int) (hl : l.length = 512) (hb : Bytes l) (k : Nat) (hk : 600 ≤ k) : thwartref03_Put.f k l = some (P l, 0) := by
  have hr := S_range l hl hb
  have e1 : (l.take 148).length = 148 := by rw [List.length_take]; omega
  unfold thwartref03_Put.f
  rw [if_pos (by omega), ref_sum l hl hb k hk, Option.bind_some, ref_octal (S l) (by omega) (by omega) k (by omega), Option.bind_some, if_pos (by omega), if_pos (by rw [e1]; decide), Option.bind_some]
  simp only [List.nil_append, Option.bind_some]
  rw [if_pos (by rw [e1, dig_len]; decide)]
  rw [if_pos (by rw [List.length_append, e1, dig_len]; decide), if_pos (by omega), if_pos (by simp only [List.length_append, e1, dig_len, List.length_drop, hl]; decide)]
  unfold P
  simp only [List.append_assoc]
theorem told_same (l : List Int) (hl : l.length = 512) (hb : Bytes l) (k : Nat) (hk : 600 ≤ k) : ∃ r, hsum_Told.f l = some r ∧ thwartref03_Told.f k l = some r := by
  obtain ⟨n, e, h1, h2⟩ := Q4.get_same ((l.take 156).drop 148) (by rw [List.length_drop, List.length_take]; omega) (fun x hx => hb x (List.mem_of_mem_take (List.mem_of_mem_drop hx))) k (by omega)
  unfold hsum_Told.f thwartref03_Told.f
  rw [if_pos (by omega), if_pos (by decide), if_pos (by omega), h1, if_pos (by omega), if_pos (by decide), if_pos (by omega), h2]
  simp only [Option.bind_some]
  split
  · split
    · exact ⟨_, rfl, rfl⟩
    · split <;> exact ⟨_, rfl, rfl⟩
  · exact ⟨_, rfl, rfl⟩
theorem check_same (l : List Int) (hl : l.length = 512) (hb : Bytes l) (k : Nat) (hk : 600 ≤ k) : ∃ r, hsum_Check.f k l = some r ∧ thwartref03_Check.f k l = some r := by
  obtain ⟨⟨n, e⟩, h1, h2⟩ := told_same l hl hb k hk
  unfold hsum_Check.f thwartref03_Check.f
  rw [h1, h2]
  simp only [Option.bind_some]
  split
  · rw [sum_is l hl hb k hk, ref_sum l hl hb k hk]
    simp only [Option.bind_some, if_true]
    by_cases h : S l = n
    · rw [if_pos h, if_pos h.symm]; exact ⟨_, rfl, rfl⟩
    · rw [if_neg h, if_neg (fun e => h e.symm)]; exact ⟨_, rfl, rfl⟩
  · exact ⟨_, rfl, rfl⟩
theorem zero_count (l : List Int) (hb : Bytes l) : (Lib.countByte (Lib.bytesOf l) (0 : Int).toNat.toUInt8 = l.length) ↔ l.all (· == 0) = true := by
  have hz : ∀ x : Int, 0 ≤ x → x < 256 → ((0 : UInt8) = x.toNat.toUInt8 ↔ (x == 0) = true) := by
    have h : ∀ x : Fin 256, ((0 : UInt8) = (x.val : Int).toNat.toUInt8 ↔ ((x.val : Int) == 0) = true) := by decide +kernel
    intro x h0 h1
    obtain ⟨x, rfl⟩ := Int.eq_ofNat_of_zero_le h0
    exact h ⟨x, by omega⟩
  show List.count (0 : UInt8) (Lib.bytesOf l) = l.length ↔ _
  have hlen : (Lib.bytesOf l).length = l.length := by unfold Lib.bytesOf; rw [List.length_map]
  rw [← hlen, List.count_eq_length, List.all_eq_true]
  unfold Lib.bytesOf
  constructor
  · intro h x hx
    exact (hz x (hb x hx).1 (hb x hx).2).1 (h _ (List.mem_map_of_mem hx))
  · intro h b hb2
    obtain ⟨x, hx, rfl⟩ := List.mem_map.1 hb2
    exact (hz x (hb x hx).1 (hb x hx).2).2 (h x hx)
theorem zero_is (l : List Int) (hb : Bytes l) : hsum_Zero.f l = some (((l.length : Int) == 512) && l.all (· == 0)) := by
  unfold hsum_Zero.f
  by_cases h : (l.length : Int) = 512
  · rw [if_pos h, show ((l.length : Int) == 512) = true from beq_iff_eq.2 h, Bool.true_and]
    simp only [bytes_Count.f, Option.bind_some]
    congr 1
    have hz := zero_count l hb
    cases ha : l.all (· == 0)
    · rw [beq_eq_false_iff_ne]
      intro hc
      rw [ha] at hz
      have : Lib.countByte (Lib.bytesOf l) (0 : Int).toNat.toUInt8 = l.length := by omega
      exact absurd (hz.1 this) (by decide)
    · rw [beq_iff_eq]
      have := hz.2 ha
      omega
  · rw [if_neg h, show ((l.length : Int) == 512) = false from beq_eq_false_iff_ne.2 h, Bool.false_and]

theorem alive_k (k : Nat) (hk : 600 ≤ k) : thwartlaw03_alive.f k = some true := by
  obtain ⟨d, rfl⟩ : ∃ d, k = 600 + d := ⟨k - 600, by omega⟩
  clear hk
  induction d with
  | zero => exact alive_is
  | succ d ih => exact thwartlaw03_alive.mono (600 + d) true ih
theorem l0_eq : ∀ k a b c d e f g h i j l m n, thwartlaw03_HsumSums_t.l0 k a b c d e f g h i j l m n = thwartlaw03_HsumSums_f.l0 k a b c d e f g h i j l m n := by
  intro k
  induction k with
  | zero => intros; rfl
  | succ k ih => intros; rw [thwartlaw03_HsumSums_t.l0, thwartlaw03_HsumSums_f.l0]; simp only [ih]
theorem j0_eq (k a b) : thwartlaw03_HsumSums_t.j0 k a b = thwartlaw03_HsumSums_f.j0 k a b := by
  cases k with
  | zero => rfl
  | succ k => rw [thwartlaw03_HsumSums_t.j0, thwartlaw03_HsumSums_f.j0]; simp only [l0_eq]
theorem zero_loop (b out : List Int) (e m h : Int) (hl : b.length ≤ 1000) (hb : Bytes b) (hsame : ∀ k, 700 ≤ k → thwartref01_Same.f k out out = some true) (hck : ∀ k, 700 ≤ k → ∃ r, hsum_Check.f k b = some r ∧ thwartref03_Check.f k b = some r) (d : Nat) :
    ∀ (k i : Nat) (z : Bool), i + d = b.length → d + 700 < k → (z && (b.drop i).all (· == 0)) = (((b.length : Int) == 512) && b.all (· == 0)) → thwartlaw03_HsumSums_f.l0 k b out e out e m h m h z b b.length i = some true := by
  induction d with
  | zero =>
    intro k i z h1 h2 hz
    obtain ⟨k, rfl⟩ : ∃ m, k = m + 1 := ⟨k - 1, by omega⟩
    obtain ⟨r, c1, c2⟩ := hck k (by omega)
    rw [List.drop_eq_nil_of_le (by omega), List.all_nil, Bool.and_true] at hz
    rw [thwartlaw03_HsumSums_f.l0, if_neg (by omega), hsame k (by omega)]
    simp only [Option.bind_some, if_true]
    rw [c1, c2]
    simp only [Option.bind_some, if_true]
    rw [zero_is b hb, ← hz]
    simp only [Option.bind_some, beq_self_eq_true, if_true]
    rw [alive_k k (by omega)]; rfl
  | succ d ih =>
    intro k i z h1 h2 hz
    obtain ⟨k, rfl⟩ : ∃ m, k = m + 1 := ⟨k - 1, by omega⟩
    have hd : b.drop i = b[i] :: b.drop (i + 1) := List.drop_eq_getElem_cons (by omega)
    have hw : wrap64 ((i : Int) + 1) = ((i + 1 : Nat) : Int) := by rw [wrap_id (by omega) (by omega)]; omega
    rw [thwartlaw03_HsumSums_f.l0, if_pos (by omega), if_pos (by omega), if_pos (by omega), hw, rd_at b i (by omega)]
    rw [hd, List.all_cons] at hz
    cases z
    · rw [if_neg (by decide)]
      exact ih k (i + 1) false (by omega) (by omega) (by rw [← hz]; rfl)
    · rw [if_pos rfl]
      exact ih k (i + 1) _ (by omega) (by omega) (by rw [← hz]; rfl)
theorem refused (b : List Int) (h : ¬ (b.length : Int) = 512) (k : Nat) : hsum_Sum.f k b = some (0, 1) ∧ hsum_Put.f b = some ([], 1) ∧ thwartref03_Put.f k b = some ([], 1) ∧ hsum_Told.f b = some (0, 1) ∧ thwartref03_Told.f k b = some (0, 1) ∧ hsum_Check.f k b = some 1 ∧ thwartref03_Check.f k b = some 1 := by
  have h1 : ∀ k, hsum_Sum.f k b = some (0, 1) := fun k => by unfold hsum_Sum.f; rw [if_neg h]
  have h2 : hsum_Told.f b = some (0, 1) := by unfold hsum_Told.f; rw [if_neg h]
  have h3 : thwartref03_Told.f k b = some (0, 1) := by unfold thwartref03_Told.f; rw [if_neg h]
  refine ⟨h1 k, ?_, ?_, h2, h3, ?_, ?_⟩
  · unfold hsum_Put.f; rw [h1]; rfl
  · unfold thwartref03_Put.f; rw [if_neg h]
  · unfold hsum_Check.f; rw [h2]; rfl
  · unfold thwartref03_Check.f; rw [h3]; rfl
theorem sums_f (b : List Int) (hb : Bytes b) (k : Nat) (hk : 2000 ≤ k) : thwartlaw03_HsumSums_f.f k b = some true := by
  unfold thwartlaw03_HsumSums_f.f
  by_cases hbig : (b.length : Int) > 1000
  · rw [if_pos hbig, alive_k k (by omega)]; rfl
  rw [if_neg hbig]
  obtain ⟨k, rfl⟩ : ∃ m, k = m + 1 := ⟨k - 1, by omega⟩
  by_cases h : (b.length : Int) = 512
  · have hl : b.length = 512 := by omega
    obtain ⟨⟨n, e⟩, t1, t2⟩ := told_same b hl hb k (by omega)
    rw [sum_is b hl hb _ (by omega), Option.bind_some, if_pos h, ref_sum b hl hb _ (by omega)]
    simp only [Option.bind_some, if_true]
    rw [show ((0 : Int) != 0) = false from rfl, thwartlaw03_HsumSums_f.j0, if_neg (by decide), put_is b hl hb, ref_put b hl hb k (by omega), t1, t2]
    simp only [Option.bind_some]
    have := zero_loop b (P b) 0 n e (by omega) hb (fun k hk => same_self _ (by rw [P_len b hl]; omega) k (by rw [P_len b hl]; omega)) (fun k hk => check_same b hl hb k (by omega)) b.length k 0 ((b.length : Int) == 512) (by omega) (by omega) (by rw [List.drop_zero])
    exact this
  · obtain ⟨r1, -, -, r4, -, -, -⟩ := refused b h (k + 1)
    obtain ⟨-, r2, r3, -, r5, -, -⟩ := refused b h k
    rw [r1, Option.bind_some, if_neg h]
    simp only [if_true]
    rw [thwartlaw03_HsumSums_f.j0, if_neg (by decide), r2, r3, r4, r5]
    simp only [Option.bind_some]
    have := zero_loop b [] 1 0 1 (by omega) hb (fun k hk => same_self _ (by simp) k (by simp; omega)) (fun k hk => by obtain ⟨-, -, -, -, -, r6, r7⟩ := refused b h k; exact ⟨_, r6, r7⟩) b.length k 0 ((b.length : Int) == 512) (by omega) (by omega) (by rw [List.drop_zero])
    exact this
theorem sums_t (l : List Int) (hb : Bytes l) : thwartlaw03_HsumSums_t.f 2000 l = some true := by
  unfold thwartlaw03_HsumSums_t.f
  by_cases hbig : (l.length : Int) > 1000
  · rw [if_pos hbig, alive_k _ (by omega)]; rfl
  rw [if_neg hbig]
  obtain ⟨b, hB, hB1, hB2⟩ := block_is l hb 2000 (by omega)
  have := sums_f b hB2 2000 (by omega)
  unfold thwartlaw03_HsumSums_f.f at this
  rw [if_neg (by omega)] at this
  rw [hB, Option.bind_some]
  simp only [j0_eq]
  exact this

theorem HsumSums : thwartlaw03_HsumSums.Pure := by
  intro l whole hl hl2 hw
  have hb : Bytes l := fun x hx => u8_ok3 x (hw x hx)
  refine ⟨2000, ?_⟩
  unfold thwartlaw03_HsumSums.f
  cases whole
  · rw [if_neg (by decide)]; exact sums_f l hb 2000 (by omega)
  · rw [if_pos rfl]; exact sums_t l hb
end Go.Proofs.YtpjanlpjjemenaaDoor.Pure
