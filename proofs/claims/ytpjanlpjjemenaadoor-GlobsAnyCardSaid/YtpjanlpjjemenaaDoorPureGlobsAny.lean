/- The pure statement of GlobsAny: two stars alone match each path; a path under another one matches that, quoted, with two stars behind; a name that matches a part matches it as a path. For every three texts. -/
import Derived.Test.YtpjanlpjjemenaaDoorF13
import Derived.Test.YtpjanlpjjemenaaDoorQGlobs4
namespace Go.Proofs.YtpjanlpjjemenaaDoor.Pure
open Go.RowKit Go.Proofs.YtpjanlpjjemenaaDoor.P Go.Proofs.YtpjanlpjjemenaaDoor.Hand Go.Proofs.YtpjanlpjjemenaaDoor.Q Go.Proofs.YtpjanlpjjemenaaDoor.Q5 Go.Proofs.YtpjanlpjjemenaaDoor.Q6 Go.Proofs.YtpjanlpjjemenaaDoorW.PrintWords Go.Proofs.YtpjanlpjjemenaaDoorW.PrintLast
set_option linter.unusedVariables false
set_option linter.unusedSimpArgs false

theorem path_of (s : ByteArray) (h : s.size ≤ 300) (hn : ∀ x ∈ pl s.data.toList, isName x = true) : isPath s := by
  refine ⟨h, List.all_eq_true.2 fun x hx => hn _ ?_⟩
  rw [← pieces_pl s.size s (Nat.le_refl _)]
  exact List.mem_map_of_mem hx
theorem pl_count (s : ByteArray) : (pieces 47 s).length = (pl s.data.toList).length := by
  rw [← pieces_pl s.size s (Nat.le_refl _), List.length_map]
theorem pl_many (l : List UInt8) (h : (47 : UInt8) ∈ l) : 1 < (pl l).length := by
  have h0 : 0 ≤ Lib.indexByte l 47 := Int.not_lt.1 fun e => (index_none l 47).1 e h
  obtain ⟨a, b, e, _⟩ := index_some l 47 h0
  rw [e, pl_app, List.length_append]
  have h1 := List.length_pos_iff.2 (pl_ne a)
  have h2 := List.length_pos_iff.2 (pl_ne b)
  omega
theorem pieces_one (s : ByteArray) (h : (47 : UInt8) ∉ s.data.toList) : pieces 47 s = [s] :=
  pieces_miss 47 s (by have := (index_none _ _).2 h; have := Lib.indexByte_ge s.data.toList 47; omega)
theorem len_small (s : ByteArray) : (pl s.data.toList).length ≤ s.size + 1 ∧ totL (pl s.data.toList) = s.size + 1 := by
  have h1 := tot_len (pieces 47 s)
  rw [tot_pieces, pl_count] at h1
  exact ⟨h1, by rw [totL_pl, szL]⟩

/-- Two stars behind a quoted path. -/
theorem match_under (k : Nat) (hk : 20000 ≤ k) (q s o : ByteArray) (ns rest : List (List UInt8)) (hq : pl q.data.toList = ns.map qt ++ [[42, 42]]) (hc : globs_Check.f q = some 0) (ho : isPath o) (hl : pl o.data.toList = ns ++ rest) (hs : ns.length ≤ 900 ∧ totL ns ≤ 900) :
    globs_Match.f k q o = some true := by
  obtain ⟨k, rfl⟩ : ∃ m, k = m + 1 := ⟨k - 1, by omega⟩
  rw [match_yes k q o ho hc]
  unfold globs_match.f
  have h1 := len_small o
  have h2 := ho.1
  exact match_tail ns (pieces 47 q) (pieces 47 o) [] [] k rest (by rw [pieces_pl q.size q (Nat.le_refl _), hq]) (by rw [pieces_pl o.size o (Nat.le_refl _), hl]) (by omega) (by rw [pl_count]; omega)
theorem check_any : globs_Check.f ⟨#[42, 42]⟩ = some 0 := by decide +kernel
theorem match_any (k : Nat) (hk : 20000 ≤ k) (o : ByteArray) : globs_Match.f k ⟨#[42, 42]⟩ o = some ((partsOf o).2 == 0) := by
  by_cases ho : isPath o
  · rw [path_parts o ho]
    exact match_under k hk _ o o [] (pl o.data.toList) (by decide +kernel) check_any ho rfl ⟨by simp, by simp [totL]⟩
  · obtain ⟨k, rfl⟩ : ∃ m, k = m + 1 := ⟨k - 1, by omega⟩
    rw [path_not o ho, match_no k _ o (.inl ho)]; rfl

theorem fits_left : ∀ (d : Nat) (s b : ByteArray) (K : Nat), s.size ≤ d → b.toList = ([] : List UInt8) → 4 * d + 8 ≤ K → globs_fits.l0 K b s b s true = some true := by
  intro d
  induction d with
  | zero =>
    intro s b K hs hb hK
    obtain ⟨k, rfl⟩ : ∃ k, K = k + 1 + 1 + 1 + 1 := ⟨K - 4, by omega⟩
    have hsn : s.toList = ([] : List UInt8) := by rw [toL]; exact (nil_size s).2 (by omega)
    rw [globs_fits.l0, if_pos hb, globs_fits.j1, if_neg (by decide), if_pos hb, globs_fits.j2, if_neg (by decide), if_pos hb, globs_fits.j3, if_pos (beq_iff_eq.2 hsn)]
  | succ d ih =>
    intro s b K hs hb hK
    obtain ⟨k, rfl⟩ : ∃ k, K = k + 1 + 1 + 1 + 1 := ⟨K - 4, by omega⟩
    rw [globs_fits.l0, if_pos hb, globs_fits.j1, if_neg (by decide), if_pos hb, globs_fits.j2, if_neg (by decide), if_pos hb, globs_fits.j3]
    by_cases hsn : s.toList = ([] : List UInt8)
    · rw [if_pos (beq_iff_eq.2 hsn)]
    · have h0 : ¬ s.size = 0 := fun e => hsn (by rw [toL]; exact (nil_size s).2 e)
      have hz := ext_sz s 1 s.size (Nat.le_refl _)
      rw [if_neg (by rw [beq_iff_eq]; exact hsn), if_pos rfl, if_neg hsn, if_pos (by omega)]
      exact ih _ b k (by omega) hb (by omega)
theorem fits_stars (p s : ByteArray) (hp : p.data.toList = [42, 42]) (K : Nat) (hK : 4 * s.size + 20 ≤ K) : globs_fits.f K p s = some true := by
  obtain ⟨k, rfl⟩ : ∃ k, K = k + 1 + 1 + 1 + 1 := ⟨K - 4, by omega⟩
  have hz : p.size = 2 := by rw [szL, hp]; rfl
  have h1 : (p.extract 1 p.size).data.toList = [42] := by rw [extL, hp, hz]; rfl
  have hz1 : (p.extract 1 p.size).size = 1 := by rw [szL, h1]; rfl
  have h2 : ((p.extract 1 p.size).extract 1 (p.extract 1 p.size).size).data.toList = [] := by rw [extL, h1, hz1]; rfl
  have b0 : bt p ((0 : Nat) : Int) = 42 := (bt_is p 0 (by rw [hp]; decide) 42).2 (by simp [hp])
  have b1 : bt (p.extract 1 p.size) ((0 : Nat) : Int) = 42 := (bt_is _ 0 (by rw [h1]; decide) 42).2 (by have := List.getElem_of_eq h1 (i := 0) (by rw [h1]; decide); rw [this]; rfl)
  rw [show ((0 : Nat) : Int) = 0 from rfl] at b0 b1
  unfold globs_fits.f
  rw [globs_fits.l0, if_neg (by rw [toL, hp]; decide), if_pos (by omega), globs_fits.j1, if_pos (by rw [b0]; rfl), if_pos (by omega), globs_fits.l0, if_neg (by rw [toL, h1]; decide), if_pos (by omega), globs_fits.j1, if_pos (by rw [b1]; rfl), if_pos (by omega)]
  exact fits_left s.size s _ k (Nat.le_refl _) (by rw [toL]; exact h2) (by omega)
theorem fits_up (p s : ByteArray) (r : Bool) (k d : Nat) (h : globs_fits.f k p s = some r) : globs_fits.f (k + d) p s = some r := by
  induction d with
  | zero => exact h
  | succ d ih => exact globs_fits.mono p s (k + d) r ih
/-- One part, one name. -/
theorem match_one (p s : ByteArray) (r : Bool) (k : Nat) (hk : 4 * s.size + 30 ≤ k) (h : globs_fits.f (k + 1 + 1) p s = some r) : globs_match.f (k + 1 + 1 + 1 + 1) [p] [s] = some r := by
  unfold globs_match.f
  rw [globs_match.l0, if_pos (by simp), if_pos (by simp), rd0, globs_match.j1]
  by_cases hp : p.toList = [42, 42]
  · rw [if_pos (beq_iff_eq.2 hp), if_pos (by simp), Option.bind_some]
    rw [fits_stars p s (by rw [← toL]; exact hp) (k + 1 + 1) (by omega)] at h
    rw [← h]
    exact match_left [s] (k + 1 + 1) (by simp; omega)
  · rw [if_neg (by rw [beq_iff_eq]; exact hp), if_pos (by simp), if_pos (by simp), if_pos (by simp), if_pos (by simp), rd0, rd0, h, Option.bind_some, globs_match.j2]
    cases r with
    | true =>
      obtain ⟨k, rfl⟩ : ∃ m, k = m + 1 + 1 + 1 := ⟨k - 3, by omega⟩
      rw [if_pos rfl, if_pos (by simp), if_pos (by simp)]
      rw [show ([p] : List ByteArray).drop 1 = [] from rfl, show ([s] : List ByteArray).drop 1 = [] from rfl, globs_match.l0, if_neg (by simp), globs_match.j1, if_neg (by decide), if_neg (by simp), globs_match.j2, if_neg (by decide), if_pos (by simp), globs_match.j3, if_pos (by simp)]
    | false =>
      rw [if_neg (by decide), if_neg (by simp), globs_match.j3, if_neg (by decide), if_neg (by decide)]
theorem any_end (k : Nat) (hk : 600000000 ≤ k) (s p : ByteArray) (hs : s.size ≤ 150) (hp : p.size ≤ 150) : thwartlaw34_GlobsAny.j1 k s p false = some true := by
  obtain ⟨k, rfl⟩ : ∃ m, k = m + 1 + 1 + 1 + 1 + 1 + 1 := ⟨k - 6, by omega⟩
  have hal : ((thwartlaw34_alive.f (k + 1 + 1 + 1 + 1 + 1)).bind fun t => some t) = some true := by rw [alive34_k _ (by omega)]; rfl
  rw [thwartlaw34_GlobsAny.j1, if_neg (by decide), name_ref s (by omega) _ (by omega), Option.bind_some]
  by_cases hn : isName s.data.toList = true
  · rw [if_pos hn, cut_is p (by omega) _ (by omega)]
    obtain ⟨m, m1, m2⟩ := match_least (k + 1 + 1 + 1 + 1 + 1) (by omega) p s
    have hsl : (47 : UInt8) ∉ s.data.toList := by
      intro h
      unfold isName okBytes at hn
      simp only [Bool.and_eq_true] at hn
      have := List.all_eq_true.1 hn.1.1.1.1 47 h
      simp at this
    have hpath : isPath s := path_of s (by omega) (by rw [pl_one _ hsl]; intro x hx; rw [List.mem_singleton.1 hx]; exact hn)
    have hcon : strings_Contains.f p (⟨#[47]⟩ : ByteArray) = some (decide (0 ≤ Lib.indexByte p.data.toList 47)) := rfl
    unfold globs_Name.f
    rw [hcon, Option.bind_some, m1]
    by_cases hc : (47 : UInt8) ∈ p.data.toList
    · have h0 : 0 ≤ Lib.indexByte p.data.toList 47 := Int.not_lt.1 fun e => (index_none _ _).1 e hc
      have hlen : ((pieces 47 p).length : Int) > 1 := by
        have := pl_many _ hc
        rw [pl_count]; omega
      rw [decide_eq_true h0, if_pos rfl, Option.bind_some, Option.bind_some, Option.bind_some, if_pos hlen]
      split <;> exact hal
    · have h0 : ¬ 0 ≤ Lib.indexByte p.data.toList 47 := by have := (index_none _ _).2 hc; omega
      rw [decide_eq_false h0, if_neg (by decide)]
      obtain ⟨e, e1, e2⟩ := check_told p
      rw [e1, Option.bind_some]
      by_cases he : e = 0
      · subst he
        obtain ⟨hp3, ha⟩ := e2 rfl
        rw [pieces_one p hc] at ha
        obtain ⟨N, n1, _⟩ := all_cons ha
        obtain ⟨r, r1, _⟩ := fits_is N true p s (by omega) (by omega) (k + 1 + 1) (by omega) 1000 n1
        rw [match_yes _ p s hpath e1, pieces_one p hc, pieces_one s hsl, match_one p s r k (by omega) r1] at m1
        have hm : r = m := Option.some.inj m1
        rw [if_pos rfl, show k + 1 + 1 + 1 + 1 + 1 = (k + 1 + 1) + 3 by omega, fits_up p s r _ 3 r1, Option.bind_some, Option.bind_some, Option.bind_some, if_pos (by rw [hm]; simp)]
        exact hal
      · rw [match_no (k + 1 + 1 + 1 + 1) p s (.inr ⟨e, e1, he⟩)] at m1
        have hm : false = m := Option.some.inj m1
        rw [if_neg he, Option.bind_some, Option.bind_some, if_pos (by rw [hm]; simp)]
        exact hal
  · rw [if_neg hn]; exact hal
theorem GlobsAny : thwartlaw34_GlobsAny.Pure := by
  intro s top p hs ht hp
  refine ⟨610000000 + 1, ?_⟩
  have hal : ((thwartlaw34_alive.f 610000000).bind fun t => some t) = some true := by rw [alive34_k _ (by decide)]; rfl
  unfold thwartlaw34_GlobsAny.f
  by_cases h1 : (s.size : Int) > 150
  · rw [if_pos h1, thwartlaw34_GlobsAny.j0, if_pos rfl, hal]
  rw [if_neg h1]
  by_cases h2 : (top.size : Int) > 100
  · rw [if_pos h2, thwartlaw34_GlobsAny.j0, if_pos rfl, hal]
  rw [if_neg h2]
  by_cases h3 : (p.size : Int) > 150
  · rw [decide_eq_true h3, thwartlaw34_GlobsAny.j0, if_pos rfl, hal]
  rw [decide_eq_false h3, thwartlaw34_GlobsAny.j0, if_neg (by decide)]
  have hend := any_end 610000000 (by decide) s p (by omega) (by omega)
  obtain ⟨q, q1, q2⟩ := quote_is top (by omega) 610000000 (Nat.lt_of_le_of_lt (show top.size ≤ 1000 by omega) (by decide))
  rw [parts_ref s (by omega) 610000000 (by decide), Option.bind_some, parts_ref top (by omega) 610000000 (by decide), Option.bind_some, match_any 610000000 (by decide) s, Option.bind_some, if_neg (by simp), q1, Option.bind_some]
  have hqs : q.size ≤ 200 := by
    have := qt_len top.data.toList
    rw [szL, q2]
    have := szL top
    omega
  have hts : (top ++ (⟨#[47]⟩ : ByteArray)).size = top.size + 1 := by rw [szL, appL, List.length_append, ← szL]; rfl
  rw [if_pos (by omega)]
  by_cases ca : (partsOf s).2 = 0
  · rw [if_pos ca]
    by_cases cb : (partsOf top).2 = 0
    · rw [if_pos cb]
      obtain ⟨e, e1, e2⟩ := check_told (q ++ (⟨#[47, 42, 42]⟩ : ByteArray))
      rw [e1, Option.bind_some]
      by_cases he : e = 0
      · subst he
        have ps := (path_zero s).1 ca
        have pt := (path_zero top).1 cb
        have hpl : pl (q ++ (⟨#[47, 42, 42]⟩ : ByteArray)).data.toList = (pl top.data.toList).map qt ++ [[42, 42]] := by
          rw [appL, q2, show (⟨#[47, 42, 42]⟩ : ByteArray).data.toList = 47 :: [42, 42] from rfl, pl_app, pl_qt, pl_one [42, 42] (by decide)]
        have hol : (top ++ (⟨#[47]⟩ : ByteArray) ++ s).data.toList = top.data.toList ++ 47 :: s.data.toList := by
          rw [appL, appL, List.append_assoc]; rfl
        have hos : (top ++ (⟨#[47]⟩ : ByteArray) ++ s).size = top.size + 1 + s.size := by rw [szL, appL, List.length_append, ← szL, ← szL, hts]
        have po : isPath (top ++ (⟨#[47]⟩ : ByteArray) ++ s) := path_of _ (by omega) (by
          rw [hol, pl_app]
          intro x hx
          rcases List.mem_append.1 hx with hx | hx
          · exact path_names top pt x hx
          · exact path_names s ps x hx)
        have hsm := len_small top
        rw [if_pos rfl, if_pos (by omega), if_pos (by omega)]
        rw [match_under 610000000 (by decide) _ s _ (pl top.data.toList) (pl s.data.toList) hpl e1 po (by rw [hol, pl_app]) (by omega), Option.bind_some, if_pos rfl]
        rw [match_under 610000000 (by decide) _ s top (pl top.data.toList) [] hpl e1 pt (by simp) (by omega), Option.bind_some]
        exact hend
      · rw [if_neg he]; exact hend
    · rw [if_neg cb]; exact hend
  · rw [if_neg ca]; exact hend
end Go.Proofs.YtpjanlpjjemenaaDoor.Pure
