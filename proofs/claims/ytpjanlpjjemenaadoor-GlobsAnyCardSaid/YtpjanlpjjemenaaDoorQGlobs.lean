/- Plain facts on patterns: a token's length does not hang on the byte; what a part asks; whether a name meets a part is told in the end. -/
import Derived.Test.YtpjanlpjjemenaaDoorHGlobs
import Derived.Test.YtpjanlpjjemenaaDoorQPpath2
import Derived.Test.YtpjanlpjjemenaaDoorF83
namespace Go.Proofs.YtpjanlpjjemenaaDoor.Q6
open Go.RowKit Go.Proofs.YtpjanlpjjemenaaDoor.P Go.Proofs.YtpjanlpjjemenaaDoor.Hand Go.Proofs.YtpjanlpjjemenaaDoor.Q Go.Proofs.YtpjanlpjjemenaaDoor.Q5 Go.Proofs.YtpjanlpjjemenaaDoorW.PrintWords Go.Proofs.YtpjanlpjjemenaaDoorW.PrintLast
set_option linter.unusedVariables false
set_option linter.unusedSimpArgs false

theorem brk_len (s : ByteArray) (b : Int) (u : Bool) : ∀ (k : Nat) (i : Int), 0 ≤ i → i ≤ (s.size : Int) + 1 → (s.size : Int) + 1 - i < k →
    ∃ n : Int, 0 ≤ n ∧ n ≤ s.size ∧ ∀ (c : Int) (m : Bool), ∃ r, brk k s c b u i m = some (n, r) ∧ (n = 0 → r = false) := by
  intro k
  induction k with
  | zero =>
    intro i h0 h2 h1
    omega
  | succ k ih =>
    intro i h0 h2 h1
    by_cases c1 : i < (s.size : Int)
    · by_cases c2 : bt s i = 93
      · by_cases c3 : i = b
        · exact ⟨0, by omega, by omega, fun c m => ⟨false, by rw [brk, if_pos c1, if_pos c2, if_pos c3], fun _ => rfl⟩⟩
        · exact ⟨i + 1, by omega, by omega, fun c m => ⟨m != u, by rw [brk, if_pos c1, if_pos c2, if_neg c3], fun h => by omega⟩⟩
      · have one : ∃ n : Int, 0 ≤ n ∧ n ≤ s.size ∧ ∀ (c : Int) (m : Bool), ∃ r, brk k s c b u (i + 1) (m || (decide (c ≥ bt s i) && decide (c ≤ bt s i))) = some (n, r) ∧ (n = 0 → r = false) := by
          obtain ⟨n, n1, n2, n3⟩ := ih (i + 1) (by omega) (by omega) (by omega)
          exact ⟨n, n1, n2, fun c m => n3 c _⟩
        by_cases c4 : i + 2 < (s.size : Int)
        · by_cases c5 : bt s (i + 1) = 45
          · by_cases c6 : bt s (i + 2) = 93
            · obtain ⟨n, n1, n2, n3⟩ := one
              exact ⟨n, n1, n2, fun c m => by rw [brk, if_pos c1, if_neg c2, if_pos c4, if_pos c5, if_pos c6]; exact n3 c m⟩
            · by_cases c7 : bt s (i + 2) < bt s i
              · exact ⟨0, by omega, by omega, fun c m => ⟨false, by rw [brk, if_pos c1, if_neg c2, if_pos c4, if_pos c5, if_neg c6, if_pos c7], fun _ => rfl⟩⟩
              · obtain ⟨n, n1, n2, n3⟩ := ih (i + 2 + 1) (by omega) (by omega) (by omega)
                exact ⟨n, n1, n2, fun c m => by rw [brk, if_pos c1, if_neg c2, if_pos c4, if_pos c5, if_neg c6, if_neg c7]; exact n3 c _⟩
          · obtain ⟨n, n1, n2, n3⟩ := one
            exact ⟨n, n1, n2, fun c m => by rw [brk, if_pos c1, if_neg c2, if_pos c4, if_neg c5]; exact n3 c m⟩
        · obtain ⟨n, n1, n2, n3⟩ := one
          exact ⟨n, n1, n2, fun c m => by rw [brk, if_pos c1, if_neg c2, if_neg c4]; exact n3 c m⟩
    · exact ⟨0, by omega, by omega, fun c m => ⟨false, by rw [brk, if_neg c1], fun _ => rfl⟩⟩
theorem bracket_len (s : ByteArray) (h : s.size ≤ 1000) : ∃ n : Int, 0 ≤ n ∧ n ≤ s.size ∧ ∀ c : Int, ∃ r, globs_bracket.f s c = some (n, r) ∧ (n = 0 → r = false) := by
  by_cases c1 : 1 < (s.size : Int)
  · by_cases c2 : bt s 1 = 94
    · obtain ⟨n, n1, n2, n3⟩ := brk_len s 2 true (s.size + 1) 2 (by omega) (by omega) (by omega)
      exact ⟨n, n1, n2, fun c => by unfold globs_bracket.f; rw [if_pos (by omega), if_pos c1, if_pos c2]; exact n3 c _⟩
    · obtain ⟨n, n1, n2, n3⟩ := brk_len s 1 false (s.size + 1) 1 (by omega) (by omega) (by omega)
      exact ⟨n, n1, n2, fun c => by unfold globs_bracket.f; rw [if_pos (by omega), if_pos c1, if_neg c2]; exact n3 c _⟩
  · obtain ⟨n, n1, n2, n3⟩ := brk_len s 1 false (s.size + 1) 1 (by omega) (by omega) (by omega)
    exact ⟨n, n1, n2, fun c => by unfold globs_bracket.f; rw [if_pos (by omega), if_neg c1]; exact n3 c _⟩
/-- The first token: its length is the same for every byte. -/
theorem first_len (s : ByteArray) (h : s.size ≤ 1000) (h0 : 0 < s.size) : ∃ n : Int, 0 ≤ n ∧ n ≤ s.size ∧ ∀ c : Int, ∃ r, globs_first.f s c = some (n, r) ∧ (n = 0 → r = false) := by
  have hp : 0 < (s.size : Int) := by omega
  by_cases c1 : bt s 0 = 42
  · exact ⟨1, by omega, by omega, fun c => ⟨false, by unfold globs_first.f; rw [if_pos hp, if_pos c1], fun _ => rfl⟩⟩
  by_cases c2 : bt s 0 = 63
  · exact ⟨1, by omega, by omega, fun c => ⟨true, by unfold globs_first.f; rw [if_pos hp, if_neg c1, if_pos c2], fun e => by omega⟩⟩
  by_cases c3 : bt s 0 = 92
  · by_cases c4 : (s.size : Int) = 1
    · exact ⟨0, by omega, by omega, fun c => ⟨false, by unfold globs_first.f; rw [if_pos hp, if_neg c1, if_neg c2, if_pos c3, if_pos c4], fun _ => rfl⟩⟩
    · exact ⟨2, by omega, by omega, fun c => ⟨bt s 1 == c, by unfold globs_first.f; rw [if_pos hp, if_neg c1, if_neg c2, if_pos c3, if_neg c4, if_pos (by omega)], fun e => by omega⟩⟩
  by_cases c4 : bt s 0 = 91
  · obtain ⟨n, n1, n2, n3⟩ := bracket_len s h
    refine ⟨n, n1, n2, fun c => ?_⟩
    obtain ⟨r, e1, e2⟩ := n3 c
    exact ⟨r, by unfold globs_first.f; rw [if_pos hp, if_neg c1, if_neg c2, if_neg c3, if_pos c4, e1]; rfl, e2⟩
  · exact ⟨1, by omega, by omega, fun c => ⟨bt s 0 == c, by unfold globs_first.f; rw [if_pos hp, if_neg c1, if_neg c2, if_neg c3, if_neg c4], fun e => by omega⟩⟩
theorem ext_size (s : ByteArray) (n : Int) (h0 : 0 ≤ n) (h : n ≤ s.size) : ((s.extract n.toNat s.size).size : Int) = s.size - n := by
  rw [ext_sz s n.toNat s.size (Nat.le_refl _)]; omega
theorem nil_size (s : ByteArray) : s.data.toList = [] ↔ s.size = 0 := by
  rw [szL]
  constructor
  · intro h; rw [h]; rfl
  · intro h; exact List.eq_nil_of_length_eq_zero h

/-- Of a part of which so much is read, N bytes are asked. -/
def Need (N : Int) (p : ByteArray) (n : Int) : Prop := 0 ≤ n ∧ n + p.size ≤ 1000 ∧ ∃ k, globs_isPart.l0 k p n true = some (N, true)
theorem need_end {N n : Int} {p : ByteArray} (h : Need N p n) (h0 : p.size = 0) : N = n := by
  obtain ⟨_, _, k, h⟩ := h
  cases k with
  | zero => cases h
  | succ k =>
    rw [globs_isPart.l0, if_pos (by rw [toL]; exact (nil_size p).2 h0)] at h
    exact (Prod.mk.inj (Option.some.inj h)).1.symm
theorem need_step {N n : Int} {p : ByteArray} (h : Need N p n) (h0 : 0 < p.size) : ∃ t : Int, 1 ≤ t ∧ t ≤ p.size ∧ (∀ c, ∃ r, globs_first.f p c = some (t, r)) ∧
    ((bt p 0 = 42 ∧ t = 1 ∧ Need N (p.extract 1 p.size) n) ∨ (bt p 0 ≠ 42 ∧ Need N (p.extract t.toNat p.size) (n + 1))) := by
  obtain ⟨h1, h2, k, h⟩ := h
  cases k with
  | zero => cases h
  | succ k =>
    obtain ⟨t, t1, t2, t3⟩ := first_len p (by omega) h0
    obtain ⟨r0, e0, z0⟩ := t3 0
    rw [globs_isPart.l0, if_neg (by rw [toL, nil_size]; omega), e0] at h
    simp only [Option.bind_some] at h
    by_cases ct : t = 0
    · rw [if_pos ct] at h; cases h
    rw [if_neg ct, if_pos (by omega)] at h
    refine ⟨t, by omega, t2, fun c => (t3 c).imp fun r h => h.1, ?_⟩
    have hsz := ext_size p t t1 t2
    by_cases c42 : bt p 0 = 42
    · rw [if_pos c42, if_pos (by omega), if_pos (by omega)] at h
      have e1 : globs_first.f p 0 = some (1, false) := by unfold globs_first.f; rw [if_pos (by omega), if_pos c42]
      rw [e1] at e0
      obtain rfl : t = 1 := ((Prod.mk.inj (Option.some.inj e0)).1).symm
      exact .inl ⟨c42, rfl, h1, by rw [show (1 : Int).toNat = 1 from rfl] at hsz; omega, k, h⟩
    · rw [if_neg c42, if_pos (by omega), if_pos (by omega), wrap_id (by omega) (by omega)] at h
      exact .inr ⟨c42, by omega, by omega, k, h⟩
theorem need_low {N : Int} : ∀ (d : Nat) (p : ByteArray) (n : Int), p.size ≤ d → Need N p n → n ≤ N ∧ N ≤ n + p.size := by
  intro d
  induction d with
  | zero => intro p n hd h; have := need_end h (by omega); omega
  | succ d ih =>
    intro p n hd h
    by_cases h0 : p.size = 0
    · have := need_end h h0; omega
    · obtain ⟨t, t1, t2, _, ⟨_, t3, h'⟩ | ⟨_, h'⟩⟩ := need_step h (by omega)
      · have hs := ext_size p 1 (by omega) (by omega)
        rw [show (1 : Int).toNat = 1 from rfl] at hs
        have := ih _ _ (by omega) h'
        omega
      · have hs := ext_size p t (by omega) t2
        have := ih _ _ (by omega) h'
        omega
/-- How much is left to do. -/
def fitsMu (p b l : ByteArray) (st : Bool) : Nat := (if st = true then b.size else 401) * 160801 + (if st = true then l.size else 0) * 401 + p.size
theorem mu_0 (x v p M : Nat) (y z q u : Nat) (h : x + v+p < M+1) (h1 : y ≤ x) (h2 : y = z + q) (h3 : u ≤ 160400) (hp : p ≤ 400) (hl : 0 < p) (hq : 160800 < q) : z + u + (p-1) < M := by omega
theorem mu_star (b l p M s : Nat) (h: b*160801 + l*401+p < M+1) (hb : p ≤ b) (hl: 0<p) (hs : s ≤ 400) (hp : p ≤ 400) : (p-1)*160801+s*401+(p-1) < M :=
  mu_0 (b * 160801) (l * 401) p M (p * 160801) ((p-1)*160801) 160801 (s * 401) h (Nat.mul_le_mul_right _ hb) (by
    obtain ⟨p, rfl⟩ : ∃ m, p = m + 1 := ⟨p - 1, by omega⟩
    rw [Nat.add_sub_cancel, Nat.succ_mul]) (Nat.mul_le_mul_right 401 hs) hp hl (by decide)
theorem mu_fresh (p M s : Nat) (h: 64481201+p < M+1) (hl: 0<p) (hs : s ≤ 400) (hp : p ≤ 400) : (p-1)*160801+s*401+(p-1) < M :=
  mu_0 64481201 0 p M (p * 160801) ((p-1)*160801) 160801 (s * 401) h (Nat.le_trans (Nat.mul_le_mul_right 160801 hp) (by decide)) (by
    obtain ⟨p, rfl⟩ : ∃ m, p = m + 1 := ⟨p - 1, by omega⟩
    rw [Nat.add_sub_cancel, Nat.succ_mul]) (Nat.mul_le_mul_right 401 hs) hp hl (by decide)
theorem mu_back (b l p M : Nat) (h: b*160801 + l*401+p < M+1) (hb : b ≤ 400) (hl: 0<l) : b*160801+(l-1)*401+b < M := by
  have h2 : l * 401 = (l-1) * 401 + 401 := by
    obtain ⟨p, rfl⟩ : ∃ m, l = m + 1 := ⟨l - 1, by omega⟩
    rw [Nat.add_sub_cancel, Nat.succ_mul]
  have key : ∀ x y z : Nat, x + y + p < M + 1 → y = z + 401 → x + z + b < M := fun x y z h h2 => by omega
  exact key _ _ _ h h2
theorem fitsMu_t (p b l : ByteArray) : fitsMu p b l true = b.size * 160801 + l.size * 401 + p.size := by simp [fitsMu]
theorem fitsMu_f (p b l : ByteArray) : fitsMu p b l false = 64481201 + p.size := by simp [fitsMu]
theorem fits_told (N : Int) (L0 : Nat) (hL : L0 ≤ 400) : ∀ (M : Nat) (p s b l : ByteArray) (st : Bool) (K : Nat) (n nb : Int),
    Need N p n → n + s.size ≤ L0 → p.size ≤ 400 → (st = true → Need N b nb ∧ nb + l.size ≤ L0 ∧ p.size ≤ b.size ∧ b.size ≤ 400) →
    fitsMu p b l st < M → 4 * M ≤ K → ∃ r, globs_fits.l0 K p s b l st = some r ∧ (r = true → N ≤ L0) := by
  intro M
  induction M with
  | zero => intro p s b l st K n nb hp hn hps hst hM hK; omega
  | succ M ih =>
    intro p s b l st K n nb hp hn hps hst hM hK
    obtain ⟨k, rfl⟩ : ∃ k, K = k + 1 + 1 + 1 + 1 := ⟨K - 4, by omega⟩
    have hn0 := hp.1
    have back : ∀ k', 4 * M ≤ k' → ∃ r, (if st = true then (if l.toList = ([] : List UInt8) then some false else (if 1 ≤ (l.size : Int) then globs_fits.l0 k' b (l.extract 1 l.size) b (l.extract 1 l.size) st else none)) else some false) = some r ∧ (r = true → N ≤ L0) := by
      intro k' hk'
      cases st with
      | false => exact ⟨false, by rw [if_neg (by decide)], fun h => by cases h⟩
      | true =>
        rw [if_pos rfl]
        by_cases hl' : l.toList = ([] : List UInt8)
        · rw [if_pos hl']; exact ⟨false, rfl, fun h => by cases h⟩
        · have hl : ¬ l.size = 0 := fun e => hl' (by rw [toL]; exact (nil_size l).2 e)
          obtain ⟨h1, h2, h3, h4⟩ := hst rfl
          have hs := ext_sz l 1 l.size (Nat.le_refl _)
          rw [if_neg hl', if_pos (by omega)]
          refine ih b (l.extract 1 l.size) b (l.extract 1 l.size) true k' nb nb h1 (by omega) h4 (fun _ => ⟨h1, by omega, Nat.le_refl _, h4⟩) ?_ hk'
          rw [fitsMu_t] at hM ⊢
          rw [hs]
          exact mu_back _ _ _ _ hM h4 (by omega)
    by_cases h0 : p.size = 0
    · have hpn : p.toList = ([] : List UInt8) := by rw [toL]; exact (nil_size p).2 h0
      rw [globs_fits.l0, if_pos hpn, globs_fits.j1, if_neg (by decide), if_pos hpn, globs_fits.j2, if_neg (by decide), if_pos hpn, globs_fits.j3]
      by_cases hs : s.toList = ([] : List UInt8)
      · rw [if_pos (beq_iff_eq.2 hs)]
        refine ⟨true, rfl, fun _ => ?_⟩
        have := need_end hp h0
        omega
      · rw [if_neg (by rw [beq_iff_eq]; exact hs)]
        exact back k (by omega)
    · have hpn : ¬ p.toList = ([] : List UInt8) := by rw [toL, nil_size]; exact h0
      obtain ⟨t, t1, t2, t3, hcase⟩ := need_step hp (by omega)
      rw [globs_fits.l0, if_neg hpn, if_pos (by omega), globs_fits.j1]
      rcases hcase with ⟨c42, rfl, h'⟩ | ⟨c42, h'⟩
      · have hz := ext_sz p 1 p.size (Nat.le_refl _)
        rw [if_pos (beq_iff_eq.2 c42), if_pos (by omega)]
        refine ih (p.extract 1 p.size) s (p.extract 1 p.size) s true (k + 1 + 1) n n h' hn (by omega) (fun _ => ⟨h', hn, Nat.le_refl _, by omega⟩) ?_ (by omega)
        rw [fitsMu_t, hz]
        cases st with
        | false => rw [fitsMu_f] at hM; exact mu_fresh _ _ _ hM (by omega) (by omega) hps
        | true =>
          obtain ⟨_, _, h3, h4⟩ := hst rfl
          rw [fitsMu_t] at hM; exact mu_star _ _ _ _ _ hM h3 (by omega) (by omega) hps
      · rw [if_neg (by rw [beq_iff_eq]; exact c42), if_neg hpn, globs_fits.j2]
        by_cases hs : s.size = 0
        · have hsn : s.toList = ([] : List UInt8) := by rw [toL]; exact (nil_size s).2 hs
          rw [if_neg (by rw [hsn]; decide), if_neg hpn, globs_fits.j3, if_neg (by decide)]
          exact back k (by omega)
        · have hsn : ¬ s.toList = ([] : List UInt8) := by rw [toL, nil_size]; exact hs
          have hz := ext_size p t (by omega) t2
          have hz1 := ext_sz s 1 s.size (Nat.le_refl _)
          obtain ⟨r, e⟩ := t3 (bt s 0)
          rw [if_pos (bne_iff_ne.2 hsn), if_pos (by omega), e]
          simp only [Option.bind_some]
          cases r with
          | false =>
            rw [if_neg (by decide)]
            exact back (k + 1) (by omega)
          | true =>
            rw [if_pos rfl, if_pos (by omega), if_pos (by omega), if_pos (by omega)]
            refine ih (p.extract t.toNat p.size) (s.extract 1 s.size) b l st (k + 1) (n + 1) nb h' (by omega) (by omega) (fun h => ?_) ?_ (by omega)
            · obtain ⟨h1, h2, h3, h4⟩ := hst h
              exact ⟨h1, h2, by omega, h4⟩
            · have hlt : (p.extract t.toNat p.size).size < p.size := by omega
              have key : ∀ x a b M : Nat, x + a < M + 1 → b < a → x + b < M := fun x a b M h1 h2 => by omega
              cases st with
              | false => rw [fitsMu_f] at hM ⊢; exact key _ _ _ _ hM hlt
              | true => rw [fitsMu_t] at hM ⊢; exact key _ _ _ _ hM hlt
/-- Whether a name meets a part that may be; if so it has as many bytes as that asks. -/
theorem fits_is (N : Int) (b : Bool) (p s : ByteArray) (hp : p.size ≤ 400) (hs : s.size ≤ 400) (K : Nat) (hK : 260000000 ≤ K) (k0 : Nat) (h : globs_isPart.f k0 p = some (N, true)) :
    ∃ r, globs_fits.f K p s = some r ∧ (r = true → N ≤ s.size) := by
  unfold globs_isPart.f at h
  have hne : (p.toList != ([] : List UInt8)) = true := by
    cases hb : (p.toList != ([] : List UInt8)) with
    | true => rfl
    | false =>
      rw [hb] at h
      have h0 : p.toList = [] := bne_eq_false_iff_eq.1 hb
      cases k0 with
      | zero => cases h
      | succ k0 => rw [globs_isPart.l0, if_pos h0] at h; cases h
  rw [hne] at h
  unfold globs_fits.f
  refine fits_told N s.size hs 64500000 p s _ _ false K 0 0 ⟨Int.le_refl 0, by omega, k0, h⟩ (by omega) hp (fun h => by cases h) ?_ (by omega)
  rw [fitsMu_f]
  exact Nat.lt_of_le_of_lt (Nat.add_le_add_left hp 64481201) (by decide)
end Go.Proofs.YtpjanlpjjemenaaDoor.Q6
