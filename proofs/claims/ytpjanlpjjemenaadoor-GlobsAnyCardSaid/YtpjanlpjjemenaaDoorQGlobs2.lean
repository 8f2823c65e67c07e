/- Plain facts on patterns, on: quoted texts; whether a path meets a pattern. -/
import Derived.Test.YtpjanlpjjemenaaDoorQGlobs
import Derived.Test.YtpjanlpjjemenaaDoorF54
import Derived.Test.YtpjanlpjjemenaaDoorF56
import Derived.Test.YtpjanlpjjemenaaDoorF58
namespace Go.Proofs.YtpjanlpjjemenaaDoor.Q6
open Go.RowKit Go.Proofs.YtpjanlpjjemenaaDoor.P Go.Proofs.YtpjanlpjjemenaaDoor.Hand Go.Proofs.YtpjanlpjjemenaaDoor.Q Go.Proofs.YtpjanlpjjemenaaDoor.Q5 Go.Proofs.YtpjanlpjjemenaaDoorW.PrintWords Go.Proofs.YtpjanlpjjemenaaDoorW.PrintLast
set_option linter.unusedVariables false
set_option linter.unusedSimpArgs false

/-! ### Quoted texts -/
def spec (c : UInt8) : Bool := c == 42 || c == 63 || c == 91 || c == 92
def qt : List UInt8 → List UInt8
  | [] => []
  | c :: l => if spec c = true then 92 :: c :: qt l else c :: qt l
theorem qt_app (a b : List UInt8) : qt (a ++ b) = qt a ++ qt b := by
  induction a with
  | nil => rfl
  | cons c a ih =>
    rw [List.cons_append, qt, qt, ih]
    split <;> rfl
theorem qt_len (l : List UInt8) : l.length ≤ (qt l).length ∧ (qt l).length ≤ 2 * l.length := by
  induction l with
  | nil => exact ⟨Nat.le_refl _, Nat.le_refl _⟩
  | cons c l ih =>
    rw [qt]
    split <;> simp only [List.length_cons] <;> omega
theorem pl_cons (c : UInt8) (l : List UInt8) (h : ¬ c = 47) (x : List UInt8) (r : List (List UInt8)) (e : pl l = x :: r) : pl (c :: l) = (c :: x) :: r := by
  rw [show pl (c :: l) = (if c = 47 then [] :: pl l else match pl l with | [] => [[c]] | h :: t => (c :: h) :: t) from rfl, if_neg h, e]
theorem pl_slash (l : List UInt8) : pl (47 :: l) = [] :: pl l := by
  rw [show pl (47 :: l) = (if (47 : UInt8) = 47 then [] :: pl l else match pl l with | [] => [[47]] | h :: t => (47 :: h) :: t) from rfl, if_pos rfl]
theorem pl_qt (l : List UInt8) : pl (qt l) = (pl l).map qt := by
  induction l with
  | nil => rfl
  | cons c l ih =>
    by_cases h : c = 47
    · subst h
      rw [qt, if_neg (by decide), pl_slash, pl_slash, ih]; rfl
    · obtain ⟨x, r, e⟩ : ∃ x r, pl l = x :: r := by
        cases hp : pl l with
        | nil => exact absurd hp (pl_ne l)
        | cons x r => exact ⟨x, r, rfl⟩
      rw [e] at ih
      have ih' : pl (qt l) = qt x :: r.map qt := ih
      rw [pl_cons c l h x r e, List.map_cons, qt, qt]
      by_cases hs : spec c = true
      · rw [if_pos hs, if_pos hs, pl_cons 92 _ (by decide) _ _ (pl_cons c _ h _ _ ih')]
      · rw [if_neg hs, if_neg hs, pl_cons c _ h _ _ ih']
theorem special_is (c : UInt8) : (Lib.indexByte [42, 63, 91, 92] c ≥ 0) ↔ spec c = true := by
  unfold spec
  by_cases h1 : c = 42
  · subst h1; decide
  by_cases h2 : c = 63
  · subst h2; decide
  by_cases h3 : c = 91
  · subst h3; decide
  by_cases h4 : c = 92
  · subst h4; decide
  have hn := (index_none [42, 63, 91, 92] c).2 (by simp [h1, h2, h3, h4])
  simp [h1, h2, h3, h4]
  omega
theorem bytes_app (a b : List Int) : Lib.bytesOf (a ++ b) = Lib.bytesOf a ++ Lib.bytesOf b := by simp [Lib.bytesOf]
theorem quote_loop (s : ByteArray) (hs : s.size ≤ 1000) (d : Nat) : ∀ (k i : Nat) (x : List Int), i + d = s.size → d < k → x.length ≤ 2 * i →
    ∃ r, globs_Quote.l0 k s x (s.size : Int) i = some r ∧ r.data.toList = Lib.bytesOf x ++ qt (s.data.toList.drop i) := by
  have hl := szL s
  induction d with
  | zero =>
    intro k i x h1 h2 h3
    obtain ⟨k, rfl⟩ : ∃ m, k = m + 1 := ⟨k - 1, by omega⟩
    rw [globs_Quote.l0, if_neg (by omega)]
    refine ⟨_, rfl, ?_⟩
    rw [numsL, List.drop_eq_nil_of_le (by omega), qt, List.append_nil]
  | succ d ih =>
    intro k i x h1 h2 h3
    obtain ⟨k, rfl⟩ : ∃ m, k = m + 1 := ⟨k - 1, by omega⟩
    have hi : i < s.data.toList.length := by omega
    have hb := bt_at' s i hi
    have hbyte : Lib.bytesOf [bt s (i : Int)] = [s.data.toList[i]] := by
      rw [hb]; simp [Lib.bytesOf]
    rw [globs_Quote.l0, if_pos (by omega), if_pos (by omega), if_pos (by omega)]
    unfold strings_IndexByte.f
    simp only [Option.bind_some]
    rw [wrap_id (i := (i : Int) + 1) (by omega) (by omega), show ((i : Int) + 1) = ((i + 1 : Nat) : Int) by omega]
    have hidx : (bt s (i : Int)).toNat.toUInt8 = s.data.toList[i] := by rw [hb, Int.toNat_natCast]; simp
    rw [hidx, List.drop_eq_getElem_cons hi, qt]
    by_cases hc : spec s.data.toList[i] = true
    · rw [if_pos ((special_is _).2 hc), if_pos hc, if_pos (by omega), if_pos (by rw [List.length_append]; simp; omega)]
      obtain ⟨r, e1, e2⟩ := ih k (i + 1) (x ++ [92] ++ [bt s (i : Int)]) (by omega) (by omega) (by simp; omega)
      refine ⟨r, e1, ?_⟩
      rw [e2, bytes_app, bytes_app, hbyte]
      simp [Lib.bytesOf]
    · rw [if_neg (fun h => hc ((special_is _).1 h)), if_neg hc, if_pos (by omega)]
      obtain ⟨r, e1, e2⟩ := ih k (i + 1) (x ++ [bt s (i : Int)]) (by omega) (by omega) (by simp; omega)
      refine ⟨r, e1, ?_⟩
      rw [e2, bytes_app, hbyte]
      simp
theorem quote_is (s : ByteArray) (hs : s.size ≤ 1000) (k : Nat) (hk : s.size < k) : ∃ r, globs_Quote.f k s = some r ∧ r.data.toList = qt s.data.toList := by
  unfold globs_Quote.f
  obtain ⟨r, e1, e2⟩ := quote_loop s hs s.size k 0 [] (by omega) hk (by simp)
  exact ⟨r, e1, by rw [e2]; rfl⟩

/-! ### A quoted name -/
theorem first_qt (p : ByteArray) (c : UInt8) (l : List UInt8) (hp : p.data.toList = qt (c :: l)) (b : UInt8) : ∃ t : Nat, 1 ≤ t ∧ t ≤ p.size ∧ bt p 0 ≠ 42 ∧
    globs_first.f p (b.toNat : Int) = some ((t : Int), c == b) ∧ (p.extract t p.size).data.toList = qt l := by
  have hl := szL p
  rw [qt] at hp
  unfold globs_first.f
  by_cases hc : spec c = true
  · rw [if_pos hc] at hp
    have hlen := congrArg List.length hp
    simp only [List.length_cons] at hlen
    have b0 : bt p ((0 : Nat) : Int) = 92 := (bt_is p 0 (by omega) 92).2 (by simp [hp])
    have b1 : bt p ((1 : Nat) : Int) = (c.toNat : Int) := (bt_is p 1 (by omega) c).2 (by simp [hp])
    rw [show ((0 : Nat) : Int) = 0 from rfl] at b0
    rw [show ((1 : Nat) : Int) = 1 from rfl] at b1
    refine ⟨2, by omega, by omega, by rw [b0]; decide, ?_, ?_⟩
    · rw [if_pos (by omega), b0, if_neg (by decide), if_neg (by decide), if_pos rfl, if_neg (by omega), if_pos (by omega), b1]
      congr 2
      rw [Bool.eq_iff_iff, beq_iff_eq, beq_iff_eq]
      constructor
      · intro h; exact UInt8.toNat_inj.1 (by omega)
      · intro h; rw [h]
    · rw [extL, hp, List.take_of_length_le (by simp; omega)]; rfl
  · rw [if_neg hc] at hp
    have hlen := congrArg List.length hp
    simp only [List.length_cons] at hlen
    have b0 : bt p ((0 : Nat) : Int) = (c.toNat : Int) := (bt_is p 0 (by omega) c).2 (by simp [hp])
    rw [show ((0 : Nat) : Int) = 0 from rfl] at b0
    have hne : ∀ d : UInt8, spec d = true → bt p 0 ≠ (d.toNat : Int) := fun d hd h => by
      rw [b0] at h
      have : c = d := UInt8.toNat_inj.1 (by omega)
      rw [this] at hc; exact hc hd
    have h42 : bt p 0 ≠ 42 := hne 42 (by decide)
    have h63 : bt p 0 ≠ 63 := hne 63 (by decide)
    have h92 : bt p 0 ≠ 92 := hne 92 (by decide)
    have h91 : bt p 0 ≠ 91 := hne 91 (by decide)
    refine ⟨1, by omega, by omega, h42, ?_, ?_⟩
    · rw [if_pos (by omega), if_neg h42, if_neg h63, if_neg h92, if_neg h91, b0]
      congr 2
      rw [Bool.eq_iff_iff, beq_iff_eq, beq_iff_eq]
      constructor
      · intro h; exact UInt8.toNat_inj.1 (by omega)
      · intro h; rw [h]
    · rw [extL, hp, List.take_of_length_le (by simp; omega)]; rfl
theorem fits_qt (n : List UInt8) : ∀ (p s b l : ByteArray) (K : Nat), p.data.toList = qt n → 4 * n.length + 8 ≤ K → globs_fits.l0 K p s b l false = some (n == s.data.toList) := by
  induction n with
  | nil =>
    intro p s b l K hp hK
    obtain ⟨k, rfl⟩ : ∃ k, K = k + 1 + 1 + 1 + 1 := ⟨K - 4, by omega⟩
    have hpn : p.toList = ([] : List UInt8) := by rw [toL]; exact hp
    rw [globs_fits.l0, if_pos hpn, globs_fits.j1, if_neg (by decide), if_pos hpn, globs_fits.j2, if_neg (by decide), if_pos hpn, globs_fits.j3, toL]
    cases hs : s.data.toList with
    | nil => rfl
    | cons c r => rfl
  | cons c n ih =>
    intro p s b l K hp hK
    obtain ⟨k, rfl⟩ : ∃ k, K = k + 1 + 1 + 1 + 1 := ⟨K - 4, by omega⟩
    rw [List.length_cons] at hK
    have hpn : ¬ p.toList = ([] : List UInt8) := by
      rw [toL, hp, qt]; split <;> simp
    obtain ⟨t0, u1, u2, h42, _, _⟩ := first_qt p c n hp 0
    rw [globs_fits.l0, if_neg hpn, if_pos (by omega), globs_fits.j1, if_neg (by rw [beq_iff_eq]; exact h42), if_neg hpn, globs_fits.j2, toL]
    cases hs : s.data.toList with
    | nil =>
      rw [if_neg (by decide), if_neg hpn, globs_fits.j3, if_neg (by decide), if_neg (by decide)]; rfl
    | cons e r =>
      have hsz : s.size = r.length + 1 := by rw [szL, hs]; rfl
      have hb : bt s ((0 : Nat) : Int) = (e.toNat : Int) := (bt_is s 0 (by rw [hs]; simp) e).2 (by simp [hs])
      rw [show ((0 : Nat) : Int) = 0 from rfl] at hb
      obtain ⟨t, t1, t2, _, t3, t4⟩ := first_qt p c n hp e
      rw [if_pos (by rfl), if_pos (by omega), hb, t3]
      simp only [Option.bind_some]
      by_cases hce : c = e
      · subst hce
        rw [if_pos (by simp), if_pos (by omega), if_pos (by omega), if_pos (by omega), Int.toNat_natCast, ih _ _ _ _ (k + 1) t4 (by omega)]
        have hr : (s.extract 1 s.size).data.toList = r := by
          rw [extL, hs, List.take_of_length_le (by simp; omega)]; rfl
        rw [hr]
        congr 1
        rw [Bool.eq_iff_iff, beq_iff_eq, beq_iff_eq]
        constructor
        · intro h; rw [h]
        · intro h; exact (List.cons.inj h).2
      · rw [if_neg (by rw [beq_iff_eq]; exact hce), if_neg (by decide)]
        congr 1
        symm
        rw [beq_eq_false_iff_ne]
        intro h; exact hce (List.cons.inj h).1
theorem part_qt (n : List UInt8) : ∀ (p : ByteArray) (K : Nat) (m : Int) (w : Bool), p.data.toList = qt n → n.length + 1 ≤ K → 0 ≤ m → m + n.length ≤ 100000 → globs_isPart.l0 K p m w = some (m + n.length, w) := by
  induction n with
  | nil =>
    intro p K m w hp hK h0 h1
    obtain ⟨k, rfl⟩ : ∃ k, K = k + 1 := ⟨K - 1, by omega⟩
    rw [globs_isPart.l0, if_pos (by rw [toL]; exact hp)]
    simp
  | cons c n ih =>
    intro p K m w hp hK h0 h1
    obtain ⟨k, rfl⟩ : ∃ k, K = k + 1 := ⟨K - 1, by omega⟩
    rw [List.length_cons] at hK h1 ⊢
    have hpn : ¬ p.toList = ([] : List UInt8) := by
      rw [toL, hp, qt]; split <;> simp
    obtain ⟨t, t1, t2, h42, t3, t4⟩ := first_qt p c n hp 0
    have t3' : globs_first.f p 0 = some ((t : Int), c == 0) := t3
    rw [globs_isPart.l0, if_neg hpn, t3']
    simp only [Option.bind_some]
    rw [if_neg (by show ¬ (t : Int) = 0; omega), if_pos (by show (0 : Int) < p.size; omega), if_neg h42, if_pos (by show (0 : Int) ≤ t; omega), if_pos (by omega), Int.toNat_natCast, wrap_id (by omega) (by omega), ih _ k _ _ t4 (by omega) (by omega) (by omega)]
    congr 2
    omega
end Go.Proofs.YtpjanlpjjemenaaDoor.Q6
