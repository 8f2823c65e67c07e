/- Plain facts on patterns, on: whole paths. -/
import Derived.Test.YtpjanlpjjemenaaDoorQGlobs2
namespace Go.Proofs.YtpjanlpjjemenaaDoor.Q6
open Go.RowKit Go.Proofs.YtpjanlpjjemenaaDoor.P Go.Proofs.YtpjanlpjjemenaaDoor.Hand Go.Proofs.YtpjanlpjjemenaaDoor.Q Go.Proofs.YtpjanlpjjemenaaDoor.Q5 Go.Proofs.YtpjanlpjjemenaaDoorW.PrintWords Go.Proofs.YtpjanlpjjemenaaDoorW.PrintLast
set_option linter.unusedVariables false
set_option linter.unusedSimpArgs false

theorem rd0 (p : ByteArray) (ps : List ByteArray) : rdOf ByteArray.empty (p :: ps) 0 = p := rfl
/-- Bytes of pieces, with one for each. -/
def tot : List ByteArray → Nat
  | [] => 0
  | x :: l => x.size + 1 + tot l
def totL : List (List UInt8) → Nat
  | [] => 0
  | x :: l => x.length + 1 + totL l
theorem tot_map (l : List ByteArray) : tot l = totL (l.map fun x => x.data.toList) := by
  induction l with
  | nil => rfl
  | cons x l ih => rw [tot, List.map_cons, totL, ih, szL]
theorem totL_pl (l : List UInt8) : totL (pl l) = l.length + 1 := by
  induction l with
  | nil => rfl
  | cons c l ih =>
    by_cases h : c = 47
    · subst h; rw [pl_slash, totL, ih]; simp; omega
    · cases hp : pl l with
      | nil => exact absurd hp (pl_ne l)
      | cons x r =>
        rw [pl_cons c l h x r hp, totL]
        rw [hp, totL] at ih
        simp only [List.length_cons]
        omega
theorem tot_pieces (s : ByteArray) : tot (pieces 47 s) = s.size + 1 := by
  rw [tot_map, pieces_pl s.size s (Nat.le_refl _), totL_pl, szL]
theorem tot_len (l : List ByteArray) : l.length ≤ tot l := by
  induction l with
  | nil => exact Nat.le_refl _
  | cons x l ih => rw [tot, List.length_cons]; omega
theorem tot_mem (l : List ByteArray) : ∀ x ∈ l, x.size ≤ tot l := by
  induction l with
  | nil => intro x hx; cases hx
  | cons y l ih =>
    intro x hx
    rw [tot]
    rcases List.mem_cons.1 hx with rfl | hx
    · omega
    · have := ih x hx; omega

theorem part_told : ∀ (d : Nat) (p : ByteArray) (k : Nat) (n : Int) (w : Bool), p.size ≤ d → d < k → p.size ≤ 1000 → ∃ r, globs_isPart.l0 k p n w = some r := by
  intro d
  induction d with
  | zero =>
    intro p k n w hd hk hs
    obtain ⟨k, rfl⟩ : ∃ m, k = m + 1 := ⟨k - 1, by omega⟩
    exact ⟨_, by rw [globs_isPart.l0, if_pos (by rw [toL, nil_size]; omega)]⟩
  | succ d ih =>
    intro p k n w hd hk hs
    obtain ⟨k, rfl⟩ : ∃ m, k = m + 1 := ⟨k - 1, by omega⟩
    by_cases h0 : p.size = 0
    · exact ⟨_, by rw [globs_isPart.l0, if_pos (by rw [toL, nil_size]; exact h0)]⟩
    · obtain ⟨t, t1, t2, t3⟩ := first_len p hs (by omega)
      obtain ⟨r0, e0, z0⟩ := t3 0
      rw [globs_isPart.l0, if_neg (by rw [toL, nil_size]; exact h0), e0]
      simp only [Option.bind_some]
      by_cases ct : t = 0
      · exact ⟨_, by rw [if_pos ct]⟩
      · have hz := ext_size p t t1 t2
        rw [if_neg ct, if_pos (by omega), if_pos t1, if_pos t2]
        split
        · exact ih _ k _ _ (by omega) (by omega) (by omega)
        · exact ih _ k _ _ (by omega) (by omega) (by omega)
theorem all_told (l : List ByteArray) (h : ∀ x ∈ l, x.size ≤ 900) : ∃ b, allParts l = some b := by
  induction l with
  | nil => exact ⟨true, rfl⟩
  | cons x l ih =>
    obtain ⟨b, e⟩ := ih (fun y hy => h y (by simp [hy]))
    obtain ⟨r, e1⟩ := part_told 900 x 1000 0 (x.toList != ([] : List UInt8)) (h x (by simp)) (by omega) (by have := h x (by simp); omega)
    have e2 : globs_isPart.f 1000 x = some r := e1
    rw [allParts, e2, Option.bind_some]
    split
    · exact ⟨b, e⟩
    · exact ⟨_, rfl⟩
theorem check_told (s : ByteArray) : ∃ e, globs_Check.f s = some e ∧ (e = 0 → s.size ≤ 300 ∧ allParts (pieces 47 s) = some true) := by
  unfold globs_Check.f
  by_cases h : 300 < s.size
  · rw [if_pos h]; exact ⟨10, rfl, fun e => by cases e⟩
  · have ht := tot_pieces s
    obtain ⟨b, e⟩ := all_told (pieces 47 s) (fun x hx => by have := tot_mem _ x hx; omega)
    rw [if_neg h, e]
    refine ⟨_, rfl, fun h0 => ⟨by omega, ?_⟩⟩
    cases b with
    | true => rfl
    | false => cases h0
theorem all_cons {x : ByteArray} {l : List ByteArray} (h : allParts (x :: l) = some true) : ∃ N, globs_isPart.f 1000 x = some (N, true) ∧ allParts l = some true := by
  rw [allParts] at h
  obtain ⟨⟨N, b⟩, e1, e2⟩ := Option.bind_eq_some_iff.1 h
  cases b with
  | true => exact ⟨N, e1, e2⟩
  | false => cases e2
theorem part_need {x : ByteArray} {N : Int} (hx : x.size ≤ 900) (h : globs_isPart.f 1000 x = some (N, true)) : 0 ≤ N ∧ N ≤ x.size := by
  unfold globs_isPart.f at h
  have hne : (x.toList != ([] : List UInt8)) = true := by
    cases hb : (x.toList != ([] : List UInt8)) with
    | true => rfl
    | false =>
      rw [hb] at h
      have h0 : x.toList = [] := bne_eq_false_iff_eq.1 hb
      rw [globs_isPart.l0, if_pos h0] at h; cases h
  rw [hne] at h
  have := need_low x.size x 0 (Nat.le_refl _) ⟨Int.le_refl 0, by omega, 1000, h⟩
  omega
/-- Of a pattern of which so much is read, W is asked. -/
def NeedM (W : Int) (ps : List ByteArray) (n : Int) : Prop := -1 ≤ n ∧ n + tot ps ≤ 800 ∧ allParts ps = some true ∧ sumParts n ps = some W
theorem needm_cons {W n : Int} {p : ByteArray} {ps : List ByteArray} (h : NeedM W (p :: ps) n) : ∃ N, globs_isPart.f 1000 p = some (N, true) ∧ 0 ≤ N ∧ N ≤ p.size ∧
    ((p.toList = [42, 42] ∧ NeedM W ps n) ∨ (p.toList ≠ [42, 42] ∧ NeedM W ps (n + (N + 1)))) := by
  obtain ⟨h1, h2, h3, h4⟩ := h
  obtain ⟨N, e1, e2⟩ := all_cons h3
  rw [tot] at h2
  obtain ⟨n1, n2⟩ := part_need (by omega) e1
  refine ⟨N, e1, n1, n2, ?_⟩
  rw [sumParts] at h4
  by_cases hp : p.toList = [42, 42]
  · rw [if_pos hp] at h4
    exact .inl ⟨hp, h1, by omega, e2, h4⟩
  · rw [if_neg hp, e1, Option.bind_some, wrap_id (i := N + 1) (by omega) (by omega), wrap_id (by omega) (by omega)] at h4
    exact .inr ⟨hp, by omega, by omega, e2, h4⟩
theorem needm_is (ps : List ByteArray) : ∀ n : Int, -1 ≤ n → n + tot ps ≤ 800 → allParts ps = some true → ∃ W, NeedM W ps n := by
  induction ps with
  | nil => intro n h1 h2 h3; exact ⟨n, h1, h2, h3, rfl⟩
  | cons p ps ih =>
    intro n h1 h2 h3
    have h2' := h2
    rw [tot] at h2'
    obtain ⟨N, e1, e2⟩ := all_cons h3
    obtain ⟨n1, n2⟩ := part_need (by omega) e1
    by_cases hp : p.toList = [42, 42]
    · obtain ⟨W, w1, w2, w3, w4⟩ := ih n h1 (by omega) e2
      exact ⟨W, h1, h2, h3, by rw [sumParts, if_pos hp]; exact w4⟩
    · obtain ⟨W, w1, w2, w3, w4⟩ := ih (n + (N + 1)) (by omega) (by omega) e2
      exact ⟨W, h1, h2, h3, by rw [sumParts, if_neg hp, e1, Option.bind_some, wrap_id (i := N + 1) (by omega) (by omega), wrap_id (by omega) (by omega)]; exact w4⟩

def matchMu (p b l : List ByteArray) (st : Bool) : Nat := (if st = true then b.length else 401) * 160801 + (if st = true then l.length else 0) * 401 + p.length
theorem matchMu_t (p b l : List ByteArray) : matchMu p b l true = b.length * 160801 + l.length * 401 + p.length := by simp [matchMu]
theorem matchMu_f (p b l : List ByteArray) : matchMu p b l false = 64481201 + p.length := by simp [matchMu]
theorem match_told (W LL : Int) : ∀ (M : Nat) (ps ns b l : List ByteArray) (st : Bool) (K : Nat) (n nb : Int),
    NeedM W ps n → n + tot ns ≤ LL → ps.length ≤ 400 → tot ns ≤ 400 → tot ps ≤ 400 → (st = true → NeedM W b nb ∧ nb + tot l ≤ LL ∧ ps.length ≤ b.length ∧ b.length ≤ 400 ∧ tot l ≤ 400 ∧ tot b ≤ 400) →
    matchMu ps b l st < M → 4 * M + 260000000 ≤ K → ∃ r, globs_match.l0 K ps ns b l st = some r ∧ (r = true → W ≤ LL) := by
  intro M
  induction M with
  | zero => intro ps ns b l st K n nb hp hn hpl hns hps hst hM hK; omega
  | succ M ih =>
    intro ps ns b l st K n nb hp hn hpl hns hps hst hM hK
    obtain ⟨k, rfl⟩ : ∃ k, K = k + 1 + 1 + 1 + 1 := ⟨K - 4, by omega⟩
    have back : ∀ k', 4 * M + 260000000 ≤ k' → ∃ r, (if st = true then (if (l.length : Int) = 0 then some false else (if 1 ≤ (l.length : Int) then ((some (l.drop 1 : List ByteArray)).bind fun y => globs_match.l0 k' b y b y st) else none)) else some false) = some r ∧ (r = true → W ≤ LL) := by
      intro k' hk'
      cases st with
      | false => exact ⟨false, by rw [if_neg (by decide)], fun h => by cases h⟩
      | true =>
        rw [if_pos rfl]
        cases l with
        | nil => rw [if_pos (show (([] : List ByteArray).length : Int) = 0 from rfl)]; exact ⟨false, rfl, fun h => by cases h⟩
        | cons x l =>
          obtain ⟨h1, h2, h3, h4, h5, h6⟩ := hst rfl
          rw [tot] at h2 h5
          rw [if_neg (by simp only [List.length_cons]; omega), if_pos (by simp only [List.length_cons]; omega), Option.bind_some]
          refine ih b ((x :: l).drop 1) b ((x :: l).drop 1) true k' nb nb h1 (show nb + (tot l : Int) ≤ LL by omega) h4 (show tot l ≤ 400 by omega) h6 (fun _ => ⟨h1, (show nb + (tot l : Int) ≤ LL by omega), Nat.le_refl _, h4, (show tot l ≤ 400 by omega), h6⟩) ?_ hk'
          rw [matchMu_t] at hM ⊢
          rw [List.length_cons] at hM
          exact mu_back b.length (l.length + 1) _ M hM h4 (by omega)
    cases ps with
    | nil =>
      rw [globs_match.l0, if_neg (by simp), globs_match.j1, if_neg (by decide), if_neg (by simp), globs_match.j2, if_neg (by decide), if_pos (by simp), globs_match.j3]
      cases ns with
      | nil =>
        rw [if_pos (by simp)]
        refine ⟨true, rfl, fun _ => ?_⟩
        have hw : n = W := Option.some.inj hp.2.2.2
        rw [tot] at hn
        omega
      | cons s ns =>
        rw [if_neg (by simp; omega)]
        exact back k (by omega)
    | cons p ps =>
      obtain ⟨N, e1, n1, n2, hcase⟩ := needm_cons hp
      rw [tot] at hps
      rw [List.length_cons] at hpl
      rw [globs_match.l0, if_pos (by simp only [List.length_cons]; omega), if_pos (by simp only [List.length_cons]; omega), rd0, globs_match.j1]
      rcases hcase with ⟨c42, h'⟩ | ⟨c42, h'⟩
      · rw [if_pos (beq_iff_eq.2 c42), if_pos (by simp only [List.length_cons]; omega), Option.bind_some]
        have htl := tot_len ns
        refine ih ((p :: ps).drop 1) ns ((p :: ps).drop 1) ns true (k + 1 + 1) n n h' hn (show ps.length ≤ 400 by omega) hns (show tot ps ≤ 400 by omega) (fun _ => ⟨h', hn, Nat.le_refl _, (show ps.length ≤ 400 by omega), hns, (show tot ps ≤ 400 by omega)⟩) ?_ (by omega)
        rw [matchMu_t]
        have hns2 : ns.length ≤ 400 := Nat.le_trans htl hns
        cases st with
        | false => rw [matchMu_f, List.length_cons] at hM; exact mu_fresh (ps.length + 1) _ _ hM (by omega) hns2 hpl
        | true =>
          obtain ⟨_, _, h3, h4, _, _⟩ := hst rfl
          rw [List.length_cons] at h3
          rw [matchMu_t, List.length_cons] at hM; exact mu_star _ _ (ps.length + 1) _ _ hM h3 (by omega) hns2 hpl
      · rw [if_neg (by rw [beq_iff_eq]; exact c42), if_pos (by simp only [List.length_cons]; omega)]
        cases ns with
        | nil =>
          rw [if_neg (by simp), globs_match.j2, if_neg (by decide), if_neg (by simp only [List.length_cons]; omega), globs_match.j3, if_neg (by decide)]
          exact back k (by omega)
        | cons s ns =>
          rw [tot] at hns hn
          obtain ⟨r, f1, f2⟩ := fits_is N true p s (by omega) (by omega) (k + 1 + 1) (by omega) 1000 e1
          rw [if_pos (by simp only [List.length_cons]; omega), if_pos (by simp only [List.length_cons]; omega), if_pos (by simp only [List.length_cons]; omega), rd0, rd0, f1, Option.bind_some, globs_match.j2]
          cases r with
          | false =>
            rw [if_neg (by decide), if_neg (by simp only [List.length_cons]; omega), globs_match.j3, if_neg (by decide)]
            exact back k (by omega)
          | true =>
            have hN := f2 rfl
            rw [if_pos rfl, if_pos (by simp only [List.length_cons]; omega), if_pos (by simp only [List.length_cons]; omega)]
            refine ih ((p :: ps).drop 1) ((s :: ns).drop 1) b l st (k + 1) (n + (N + 1)) nb h' (show n + (N + 1) + (tot ns : Int) ≤ LL by omega) (show ps.length ≤ 400 by omega) (show tot ns ≤ 400 by omega) (show tot ps ≤ 400 by omega) (fun h => ?_) ?_ (by omega)
            · obtain ⟨h1, h2, h3, h4, h5, h6⟩ := hst h
              rw [List.length_cons] at h3
              exact ⟨h1, h2, (show ps.length ≤ b.length by omega), h4, h5, h6⟩
            · have key : ∀ x a M : Nat, x + (a + 1) < M + 1 → x + a < M := fun x a M h1 => by omega
              cases st with
              | false =>
                rw [matchMu_f, List.length_cons] at hM
                rw [matchMu_f]
                exact key _ _ _ hM
              | true =>
                rw [matchMu_t, List.length_cons] at hM
                rw [matchMu_t]
                exact key _ _ _ hM

/-! ### Quoted paths -/
theorem qt_star (n : List UInt8) (l : List UInt8) : qt n ≠ 42 :: l := by
  cases n with
  | nil => intro h; cases h
  | cons c n =>
    intro h
    rw [qt] at h
    by_cases hc : spec c = true
    · rw [if_pos hc] at h; exact absurd (List.cons.inj h).1 (by decide)
    · rw [if_neg hc] at h
      rw [(List.cons.inj h).1] at hc
      exact hc (by decide)
theorem match_qt (ns : List (List UInt8)) : ∀ (ps names b l : List ByteArray) (K : Nat), (ps.map fun x => x.data.toList) = ns.map qt → totL ns ≤ 1000 → 4 * ns.length + 5000 ≤ K →
    globs_match.l0 K ps names b l false = some (decide ((names.map fun x => x.data.toList) = ns)) := by
  induction ns with
  | nil =>
    intro ps names b l K hp ht hK
    obtain ⟨k, rfl⟩ : ∃ k, K = k + 1 + 1 + 1 + 1 := ⟨K - 4, by omega⟩
    obtain rfl : ps = [] := List.map_eq_nil_iff.1 hp
    rw [globs_match.l0, if_neg (by simp), globs_match.j1, if_neg (by decide), if_neg (by simp), globs_match.j2, if_neg (by decide), if_pos (by simp), globs_match.j3]
    cases names with
    | nil => rfl
    | cons s names => rw [if_neg (by simp; omega), if_neg (by decide)]; simp
  | cons n ns ih =>
    intro ps names b l K hp ht hK
    obtain ⟨k, rfl⟩ : ∃ k, K = k + 1 + 1 + 1 + 1 := ⟨K - 4, by omega⟩
    rw [List.length_cons] at hK
    rw [totL] at ht
    cases ps with
    | nil => cases hp
    | cons p ps =>
    obtain ⟨h1, h2⟩ : p.data.toList = qt n ∧ _ := List.cons.inj hp
    have c42 : ¬ p.toList = [42, 42] := fun h => by rw [toL, h1] at h; exact qt_star _ _ h
    rw [globs_match.l0, if_pos (by simp only [List.length_cons]; omega), if_pos (by simp only [List.length_cons]; omega), rd0, globs_match.j1, if_neg (by rw [beq_iff_eq]; exact c42), if_pos (by simp only [List.length_cons]; omega)]
    cases names with
    | nil =>
      rw [if_neg (by simp), globs_match.j2, if_neg (by decide), if_neg (by simp only [List.length_cons]; omega), globs_match.j3, if_neg (by decide), if_neg (by decide)]
      rfl
    | cons s names =>
      have hf : globs_fits.f (k + 1 + 1) p s = some (n == s.data.toList) := by unfold globs_fits.f; exact fits_qt n p s _ _ _ h1 (by omega)
      rw [if_pos (by simp only [List.length_cons]; omega), if_pos (by simp only [List.length_cons]; omega), if_pos (by simp only [List.length_cons]; omega), rd0, rd0, hf, Option.bind_some, globs_match.j2]
      by_cases hns : n = s.data.toList
      · rw [if_pos (beq_iff_eq.2 hns), if_pos (by simp only [List.length_cons]; omega), if_pos (by simp only [List.length_cons]; omega)]
        have := ih ps names b l (k + 1) h2 (by omega) (by omega)
        rw [show (p :: ps).drop 1 = ps from rfl, show (s :: names).drop 1 = names from rfl, this]
        congr 1
        rw [List.map_cons, ← hns]
        simp
      · rw [if_neg (by rw [beq_iff_eq]; exact hns), if_neg (by simp only [List.length_cons]; omega), globs_match.j3, if_neg (by decide), if_neg (by decide)]
        congr 1
        symm
        rw [decide_eq_false_iff_not]
        intro h
        rw [List.map_cons] at h
        exact hns (List.cons.inj h).1.symm
/-- Two stars behind all: whatever is left, is met. -/
theorem match_left : ∀ (ns : List ByteArray) (K : Nat), 4 * ns.length + 8 ≤ K → globs_match.l0 K [] ns [] ns true = some true := by
  intro ns
  induction ns with
  | nil =>
    intro K hK
    obtain ⟨k, rfl⟩ : ∃ k, K = k + 1 + 1 + 1 + 1 := ⟨K - 4, by omega⟩
    rw [globs_match.l0, if_neg (by simp), globs_match.j1, if_neg (by decide), if_neg (by simp), globs_match.j2, if_neg (by decide), if_pos (by simp), globs_match.j3, if_pos (by simp)]
  | cons s ns ih =>
    intro K hK
    rw [List.length_cons] at hK
    obtain ⟨k, rfl⟩ : ∃ k, K = k + 1 + 1 + 1 + 1 := ⟨K - 4, by omega⟩
    rw [globs_match.l0, if_neg (by simp), globs_match.j1, if_neg (by decide), if_neg (by simp), globs_match.j2, if_neg (by decide), if_pos (by simp), globs_match.j3, if_neg (by simp; omega), if_pos rfl, if_neg (by simp only [List.length_cons]; omega), if_pos (by simp only [List.length_cons]; omega), Option.bind_some]
    exact ih k (by omega)
theorem match_tail (ns : List (List UInt8)) : ∀ (ps names b l : List ByteArray) (K : Nat) (rest : List (List UInt8)), (ps.map fun x => x.data.toList) = ns.map qt ++ [[42, 42]] → (names.map fun x => x.data.toList) = ns ++ rest → totL ns ≤ 1000 → 4 * ns.length + 4 * names.length + 5000 ≤ K →
    globs_match.l0 K ps names b l false = some true := by
  induction ns with
  | nil =>
    intro ps names b l K rest hp hn ht hK
    obtain ⟨k, rfl⟩ : ∃ k, K = k + 1 + 1 := ⟨K - 2, by omega⟩
    obtain ⟨p, rfl⟩ : ∃ p, ps = [p] := by
      cases ps with
      | nil => cases hp
      | cons p ps =>
        obtain ⟨_, h2⟩ := List.cons.inj hp
        obtain rfl : ps = [] := List.map_eq_nil_iff.1 h2
        exact ⟨p, rfl⟩
    have h1 : p.data.toList = [42, 42] := (List.cons.inj hp).1
    rw [globs_match.l0, if_pos (by simp), if_pos (by simp), rd0, globs_match.j1, if_pos (by rw [beq_iff_eq, toL]; exact h1), if_pos (by simp), Option.bind_some]
    exact match_left names k (by omega)
  | cons n ns ih =>
    intro ps names b l K rest hp hn ht hK
    obtain ⟨k, rfl⟩ : ∃ k, K = k + 1 + 1 + 1 := ⟨K - 3, by omega⟩
    rw [List.length_cons] at hK
    rw [totL] at ht
    cases ps with
    | nil => cases hp
    | cons p ps =>
    cases names with
    | nil => cases hn
    | cons s names =>
    obtain ⟨h1, h2⟩ : p.data.toList = qt n ∧ _ := List.cons.inj hp
    obtain ⟨h3, h4⟩ : s.data.toList = n ∧ _ := List.cons.inj hn
    rw [List.length_cons] at hK
    have c42 : ¬ p.toList = [42, 42] := fun h => by rw [toL, h1] at h; exact qt_star _ _ h
    have hf : globs_fits.f (k + 1) p s = some (n == s.data.toList) := by unfold globs_fits.f; exact fits_qt n p s _ _ _ h1 (by omega)
    rw [globs_match.l0, if_pos (by simp only [List.length_cons]; omega), if_pos (by simp only [List.length_cons]; omega), rd0, globs_match.j1, if_neg (by rw [beq_iff_eq]; exact c42), if_pos (by simp only [List.length_cons]; omega), if_pos (by simp only [List.length_cons]; omega), if_pos (by simp only [List.length_cons]; omega), if_pos (by simp only [List.length_cons]; omega), rd0, rd0, hf, Option.bind_some, globs_match.j2, if_pos (beq_iff_eq.2 h3.symm), if_pos (by simp only [List.length_cons]; omega), if_pos (by simp only [List.length_cons]; omega)]
    exact ih ps names b l k rest h2 h4 (by omega) (by omega)
end Go.Proofs.YtpjanlpjjemenaaDoor.Q6
